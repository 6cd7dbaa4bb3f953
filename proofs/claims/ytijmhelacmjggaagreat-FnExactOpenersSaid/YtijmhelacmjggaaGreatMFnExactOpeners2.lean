/- The law FnExactOpeners holds for every call: part 3 of 6 of the proof (walks of functions, and what they answer). Conditions: none beyond what the given row says. -/
import Derived.Test.YtijmhelacmjggaaGreatMFnExactOpeners0
import Derived.Test.YtijmhelacmjggaaGreatMFnExactOpeners1
import Derived.Shelf.Abstract
import Derived.Lib.Hide
set_option maxHeartbeats 16000000
set_option maxRecDepth 100000
namespace Go.Proofs.YtijmhelacmjggaaGreat.P
open Go.RowKit Go.Shelf Go.Proofs.YtijmhelacmjggaaGreatW.PrintWords Go.Proofs.YtijmhelacmjggaaGreatW.PrintLast Go.Proofs.YtijmhelacmjggaaGreatW.PrintMore Go.Proofs.YtijmhelacmjggaaGreatEv
set_option linter.unusedVariables false
set_option linter.unusedSimpArgs false
theorem again_of {w0 : World} {gm gg cn : Nat} {An : Option Addr} {nodes : List S121} {tx : ByteArray} {E : Nat → Bool} (kid : Nat) (he : EOK w0 gm gg An cn nodes tx E kid) (v : Value) (b : Bool) (w : World) (hM : Memo w0 gm gg An cn nodes tx E w) (hB : Below w0.heap.size w0 w) (hv : Row w0 w gg v b) :
    Calls Tryz.prog 123 #[.pointer (some ⟨gm, 0, none⟩), .int .i64 (kid : Int), v] w fun e w' => ∃ v', e = .returned v' ∧ Row w0 w' gg v' b ∧ Memo w0 gm gg An cn nodes tx E w' ∧ MK gg w w' ∧ Below w0.heap.size w0 w' := by
  have HE := q_ he; have HM := q_ hM; have HB := q_ hB; have HK := q_ (MK.refl gg w); obtain ⟨g, c, rfl, hc⟩ := Row.form hv; have HV := q_ hv; clear he hM hB hv
  go_enter Tryz.func123, Tryz.ntmps123
  go_wp2_with (first | (go_at_call 122; obtain ⟨k_, hk_⟩ := or_one b b; refine (spec_l4Or.calls k_ _ _ [b] _ _ [b] _ _ (Row.C HV.o) (Kd.R_reads' HV.o).2.1 (Row.C HV.o) (Kd.R_reads' HV.o).2.1 hk_).mono ?_; rintro e w_ ⟨H7v, rfl, ho, hb⟩; have H7 := q_ (Row.new ho HB.o (Memo.gg_lt HM.o)); have nHV := q_ (Row.keep HV.o (MK.below hb)); clear HV; have HV := nHV; clear nHV; (try rw [Bool.or_self] at H7); have nM := q_ (Memo.below HM.o hb); have nB := q_ (below_step HB.o hb); have nK := q_ (HK.o.trans (MK.below hb)); clear HM HB HK ho hb hk_; have HM := nM; have HB := nB; have HK := nK; clear nM nB nK) | ((with_reducible refine gate_dst (N := 15) rfl ?_); refine Kd.R_make Kd.bool _ 4 rfl (N := 15) rfl 114 _ _ rfl (1 : Int) rfl rfl Tryz.underlying114 (.bool false) 1 info4 rfl (by decide) (by omega) false (ok := fun _ => True) (okp := fun _ => True) rfl (fun _ hk => hk) trivial (by omega) (by decide) (Below.refl _ _) (Nat.le_refl _) ?_; intro H8v w_ ho hb hg_ hnew_; clear hg_; replace ho : Kd.R Kd.bool 4 w_ _ (fun _ => True) H8v [false] := ho; have H8 := q_ (Row.new ho HB.o (Memo.gg_lt HM.o)); have H1 : ∃ W1 : World, Memo w0 gm gg An cn nodes tx E W1 ∧ Row w0 W1 gg (.slice (some ⟨g, 0, none⟩) 1 c) b ∧ Row w0 W1 gg H7v b ∧ Below W1.heap.size W1 w_ ∧ (∃ b_, H8v.ownBlock = some b_ ∧ W1.heap.size ≤ b_) ∧ Below w0.heap.size w0 W1 ∧ MK gg w W1 := ⟨_, HM.o, HV.o, H7.o, hb, hnew_, HB.o, HK.o⟩; have nHV := q_ (Row.keep HV.o (MK.below hb)); have nH7 := q_ (Row.keep H7.o (MK.below hb)); clear HV; have HV := nHV; clear nHV; clear H7; have H7 := nH7; clear nH7; have nM := q_ (Memo.below HM.o hb); have nB := q_ (below_step HB.o hb); have nK := q_ (HK.o.trans (MK.below hb)); clear HM HB HK ho hb hnew_; have HM := nM; have HB := nB; have HK := nK; clear nM nB nK))
  obtain ⟨W1, hM1, hV1, h71, hb1, ⟨g8', e8, hg8⟩, hB1, hK1⟩ := H1
  obtain ⟨g7, c7, rfl, hc7⟩ := Row.form H7.o; obtain ⟨g8, c8, rfl, hc8⟩ := Row.form H8.o
  obtain rfl : g8 = g8' := by simpa [Value.ownBlock] using e8
  have HM1 := q_ hM1; have HV1 := q_ hV1; have H71 := q_ h71; have HB1 := q_ hB1; have HK1 := q_ hK1; have Hb1 := q_ hb1; have HG8 := q_ hg8; clear hM1 hV1 h71 hB1 hb1 hg8 e8 hK1
  go_loopg [7, 9] 2 (fun gk_ v7 v9 wr => ∃ (kk : Nat), v9 = .int .i64 (kk : Int) ∧ kk ≤ 1 ∧ 2 - kk ≤ gk_ ∧ J0 (kk = 0 → v7 = .slice (some ⟨g7, 0, none⟩) 1 c7 ∧ Below W1.heap.size W1 wr ∧ Row w0 wr gg (.slice (some ⟨g8, 0, none⟩) 1 c8) false) ∧ J0 (Row w0 wr gg v7 b) ∧ J0 (Memo w0 gm gg An cn nodes tx E wr) ∧ J0 (Below w0.heap.size w0 wr) ∧ J0 (MK gg w wr))
  case atStart => exact ⟨0, rfl, by omega, by omega, ⟨fun _ => ⟨rfl, Hb1.o, H8.o⟩⟩, H7, HM, HB, HK⟩
  case round =>
    clear H7 H8 HV HM HB HK Hb1; obtain ⟨kk, rfl, hkk, hgk, HZ, H7, HM, HB, HK⟩ := hrel
    obtain rfl | rfl : kk = 0 ∨ kk = 1 := by omega
    · obtain ⟨rfl, hbw, h8⟩ := HZ.o rfl
      have hx7 := Row.cell H7.o; have hx8 := Row.cell h8; have hf8 := Row.frozen h8; have Hbw := q_ hbw; have H8 := q_ h8; clear HZ hbw h8
      cases b with
      | false =>
        go_wp2_with fail
        go_roundg 1
        case measure => omega
        case rel => exact ⟨1, rfl, by omega, by omega, ⟨fun h => absurd h (by omega)⟩, H7, HM, HB, HK⟩
      | true =>
        go_upto_region 8 with (fail)
        have Hbs := below_set Hbw.o HG8.o (j := 0) (v := .bool true); clear H7 HM HB HK Hbw H8 hx7 hx8 hf8; have HM := q_ (Memo.below HM1.o Hbs); have H7 := q_ (Row.keep H71.o (MK.below (gg := gg) Hbs)); have HK := q_ (HK1.o.trans (MK.below (gg := gg) Hbs)); have HB := q_ (below_step HB1.o Hbs); clear Hbs
        generalize wr.setCell ⟨g8, 0, none⟩ (.bool true) = w9 at *
        go_wp2_with (first | (go_at_call 113; refine (HE.o _ HM.o HB.o).mono ?_; rintro e w_ ⟨v_, rfl, hR_, hM_, hK_, hB_⟩; have nH7 := q_ (Row.keep H7.o hK_); clear H7; have H7 := nH7; clear nH7; obtain ⟨g_, c_, rfl, hc_⟩ := Row.form hR_; have H9 := q_ hR_; have nK := q_ (HK.o.trans hK_); clear HM HB HK hR_ hK_; have HM := q_ hM_; have HB := q_ hB_; have HK := nK; clear nK hM_ hB_) | (go_at_call 122; obtain ⟨k_, hk_⟩ := or_one true (E kid); refine (spec_l4Or.calls k_ _ _ [true] _ _ [(E kid)] _ _ (Row.C H7.o) (Kd.R_reads' H7.o).2.1 (Row.C H9.o) (Kd.R_reads' H9.o).2.1 hk_).mono ?_; rintro e w_ ⟨H10v, rfl, ho, hb⟩; have H10 := q_ (Row.new ho HB.o (Memo.gg_lt HM.o)); have nM := q_ (Memo.below HM.o hb); have nB := q_ (below_step HB.o hb); have nK := q_ (HK.o.trans (MK.below hb)); clear HM HB HK ho hb hk_; have HM := nM; have HB := nB; have HK := nK; clear nM nB nK))
        go_roundg 1
        case measure => omega
        case rel => exact ⟨1, rfl, by omega, by omega, ⟨fun h => absurd h (by omega)⟩, ⟨by have h := H10.o; simpa using h⟩, HM, HB, HK⟩
    · have hfm := Row.form H7.o
      obtain ⟨g9, c9, rfl, hc9⟩ := hfm; clear HZ
      go_wp2_with fail
      go_ret
      exact ⟨_, rfl, H7.o, HM.o, HK.o, HB.o⟩
theorem find_empty {w0 : World} {gm gg cn : Nat} {An : Option Addr} {nodes : List S121} {tx : ByteArray} {E : Nat → Bool} (ht : tx.size = 0) (hn : nodes.length ≤ 100000) (k : Nat) (hk1 : k < nodes.length) (hN : Kd.C k121 w0 An nodes.length nodes) (hop : (rd_T121 nodes (k : Int)).f0 = 1) (hE : E k = true) : FOK w0 gm gg An cn nodes tx E k := by
  intro w hM hB
  obtain ⟨ad, A1, c1, A2, c2, rfl, hx0, hx1, hx2, hx3, hx4, _, _, hc2, hC2⟩ := at_T121 hN (k : Int) (by omega) (by omega)
  rw [Int.toNat_natCast] at hx0 hx1 hx2 hx3 hx4
  replace hx0 := (hB.cell (World.block_lt_of_cell? w0 _ hx0)).trans hx0; replace hx1 := (hB.cell (World.block_lt_of_cell? w0 _ hx1)).trans hx1; replace hx2 := (hB.cell (World.block_lt_of_cell? w0 _ hx2)).trans hx2; replace hx3 := (hB.cell (World.block_lt_of_cell? w0 _ hx3)).trans hx3; replace hx4 := (hB.cell (World.block_lt_of_cell? w0 _ hx4)).trans hx4
  obtain ⟨x, hxd⟩ : ∃ x, rd_T121 nodes (k : Int) = x := ⟨_, rfl⟩
  rw [hxd] at hx0 hx1 hx2 hx3 hx4 hc2 hC2 hop
  rw [hop] at hx0
  clear hxd
  skip
  obtain ⟨cg, hG, hcg, hgm⟩ := Memo.head hM
  have hm0 : w.cell? ⟨gm, 0, none⟩ = some (.slice (some ad) nodes.length cn) := (blk_cell hG 0).trans rfl
  have hm1 : w.cell? ⟨gm, 1, none⟩ = some (.string tx) := (blk_cell hG 1).trans rfl
  have ha1 : (w.alloc (.cells #[.int .i64 1, .slice A1 x.f1.length c1, .slice A2 x.f2.length c2, .int .i64 x.f3, .int .i64 x.f4] 121)).cell? ⟨gm, 1, none⟩ = some (.string tx) := (blk_cell (blk_alloc hG _) 1).trans rfl
  have hkz : (k : Int) < (nodes.length : Int) := by omega
  have hk0 : (0 : Int) ≤ (k : Int) := by omega
  obtain ⟨gn, hgn⟩ : ∃ gn, w.heap.size = gn := ⟨_, rfl⟩
  have HGN : J0 (gn ≠ gg) := ⟨by have := Memo.gg_lt hM; omega⟩
  have BN : J0 ((w.alloc (.cells #[.int .i64 1, .slice A1 x.f1.length c1, .slice A2 x.f2.length c2, .int .i64 x.f3, .int .i64 x.f4] 121)).heap[gn]? = some (.cells #[.int .i64 1, .slice A1 x.f1.length c1, .slice A2 x.f2.length c2, .int .i64 x.f3, .int .i64 x.f4] 121 (0, 0))) := ⟨by rw [← hgn]; exact blk_new w _⟩
  have HK := q_ (MK.below (gg := gg) (below_alloc (Below.refl w.heap.size w) (.cells #[.int .i64 1, .slice A1 x.f1.length c1, .slice A2 x.f2.length c2, .int .i64 x.f3, .int .i64 x.f4] 121))); have HB := q_ (below_alloc hB (.cells #[.int .i64 1, .slice A1 x.f1.length c1, .slice A2 x.f2.length c2, .int .i64 x.f3, .int .i64 x.f4] 121)); have HM := q_ (Memo.below hM (below_alloc (Below.refl w.heap.size w) (.cells #[.int .i64 1, .slice A1 x.f1.length c1, .slice A2 x.f2.length c2, .int .i64 x.f3, .int .i64 x.f4] 121))); have HE := q_ hE; clear hG hM hB hE
  go_enter Tryz.func117, Tryz.ntmps117
  go_upto_region 5 with (first | ((with_reducible refine gate_dst (N := 26) rfl ?_); refine Kd.R_make Kd.bool _ 4 rfl (N := 26) rfl 114 _ _ rfl (1 : Int) rfl rfl Tryz.underlying114 (.bool false) 1 info4 rfl (by decide) (by omega) false (ok := fun _ => True) (okp := fun _ => True) rfl (fun _ hk => hk) trivial (by omega) (by decide) (Below.refl _ _) (Nat.le_refl _) ?_; intro H8v w_ ho hb hg_ hnew_; clear hg_; replace ho : Kd.R Kd.bool 4 w_ _ (fun _ => True) H8v [false] := ho; have H8 := q_ (Row.new ho HB.o (Memo.gg_lt HM.o)); have nBN := q_ (blk_below BN.o hb); clear BN; have BN := nBN; clear nBN; have nM := q_ (Memo.below HM.o hb); have nB := q_ (below_step HB.o hb); have nK := q_ (HK.o.trans (MK.below hb)); clear HM HB HK ho hb hnew_; have HM := nM; have HB := nB; have HK := nK; clear nM nB nK; obtain ⟨cg_, hG_, _, _⟩ := Memo.head HM.o; have ha2 : w_.cell? ⟨gm, 1, none⟩ = some (.string tx) := (blk_cell hG_ 1).trans rfl; clear hG_) | ((with_reducible refine gate_dst (N := 33) rfl ?_); refine Kd.R_make Kd.bool _ 4 rfl (N := 33) rfl 114 _ _ rfl (1 : Int) rfl rfl Tryz.underlying114 (.bool false) 1 info4 rfl (by decide) (by omega) false (ok := fun _ => True) (okp := fun _ => True) rfl (fun _ hk => hk) trivial (by omega) (by decide) (Below.refl _ _) (Nat.le_refl _) ?_; intro H9v w_ ho hb hg_ hnew_; clear hg_; replace ho : Kd.R Kd.bool 4 w_ _ (fun _ => True) H9v [false] := ho; have H9 := q_ (Row.new ho HB.o (Memo.gg_lt HM.o)); have HX1 : ∃ W1 : World, Memo w0 gm gg (some ad) cn nodes tx E W1 ∧ Row w0 W1 gg H8v false ∧ W1.heap[gn]? = some (.cells #[.int .i64 1, .slice A1 x.f1.length c1, .slice A2 x.f2.length c2, .int .i64 x.f3, .int .i64 x.f4] 121 (0, 0)) ∧ Below W1.heap.size W1 w_ ∧ (∃ b_, H9v.ownBlock = some b_ ∧ W1.heap.size ≤ b_) ∧ Below w0.heap.size w0 W1 ∧ MK gg w W1 := ⟨_, HM.o, H8.o, BN.o, hb, hnew_, HB.o, HK.o⟩; have nH8 := q_ (Row.keep H8.o (MK.below hb)); clear H8; have H8 := nH8; clear nH8; have nBN := q_ (blk_below BN.o hb); clear BN; have BN := nBN; clear nBN; have nM := q_ (Memo.below HM.o hb); have nB := q_ (below_step HB.o hb); have nK := q_ (HK.o.trans (MK.below hb)); clear HM HB HK ho hb hnew_; have HM := nM; have HB := nB; have HK := nK; clear nM nB nK; obtain ⟨H9g, H9c, rfl, H9h⟩ := Row.form H9.o; have hx9 := Row.cell H9.o; have hf9 := Row.frozen H9.o))
  obtain ⟨W1, hM1, h81, hBN1, hb1, ⟨g9', e9, hg9⟩, hB1, hK1⟩ := HX1
  obtain rfl : H9g = g9' := by simpa [Value.ownBlock] using e9
  have Hbs := below_set hb1 hg9 (j := 0) (v := .bool true); have nH9 := q_ ((Kd.R_put H9.o 0 true).1); clear H8 H9 HM HB HK BN; have HM := q_ (Memo.below hM1 Hbs); have H8 := q_ (Row.keep h81 (MK.below (gg := gg) Hbs)); have HK := q_ (hK1.trans (MK.below (gg := gg) Hbs)); have HB := q_ (below_step hB1 Hbs); have BN := q_ (blk_below hBN1 Hbs)
  have H9 : J0 (Row w0 (w_.setCell ⟨H9g, 0, none⟩ (.bool true)) gg (.slice (some ⟨H9g, 0, none⟩) 1 H9c) true) := nH9
  clear nH9 Hbs hM1 h81 hBN1 hb1 hg9 e9 hB1 hK1 hx9 hf9
  generalize w_.setCell ⟨H9g, 0, none⟩ (.bool true) = w9 at *
  obtain ⟨H8g, H8c, rfl, hH8⟩ := Row.form H8.o; obtain ⟨cg_, hG_, _, _⟩ := Memo.head HM.o
  have ht1 : w9.cell? ⟨gm, 1, none⟩ = some (.string tx) := (blk_cell hG_ 1).trans rfl
  clear hG_
  have hn0 : w9.cell? ⟨gn, 0, none⟩ = some (.int .i64 1) := (blk_cell BN.o 0).trans rfl
  have hn2 : w9.cell? ⟨gn, 2, none⟩ = some (.slice A2 x.f2.length c2) := (blk_cell BN.o 2).trans rfl
  have hn3 : w9.cell? ⟨gn, 3, none⟩ = some (.int .i64 x.f3) := (blk_cell BN.o 3).trans rfl
  have hn4 : w9.cell? ⟨gn, 4, none⟩ = some (.int .i64 x.f4) := (blk_cell BN.o 4).trans rfl
  go_wp2_with fail
  go_ret
  exact ⟨_, rfl, by rw [HE.o]; exact H9.o, HM.o, HK.o, HB.o⟩
theorem find_set {w0 : World} {gm gg cn : Nat} {An : Option Addr} {nodes : List S121} {tx : ByteArray} {E : Nat → Bool} (ht : tx.size = 0) (hn : nodes.length ≤ 100000) (k : Nat) (hk1 : k < nodes.length) (hN : Kd.C k121 w0 An nodes.length nodes) (hop : (rd_T121 nodes (k : Int)).f0 = 2) (hE : E k = false) : FOK w0 gm gg An cn nodes tx E k := by
  intro w hM hB
  obtain ⟨ad, A1, c1, A2, c2, rfl, hx0, hx1, hx2, hx3, hx4, _, _, hc2, hC2⟩ := at_T121 hN (k : Int) (by omega) (by omega)
  rw [Int.toNat_natCast] at hx0 hx1 hx2 hx3 hx4
  replace hx0 := (hB.cell (World.block_lt_of_cell? w0 _ hx0)).trans hx0; replace hx1 := (hB.cell (World.block_lt_of_cell? w0 _ hx1)).trans hx1; replace hx2 := (hB.cell (World.block_lt_of_cell? w0 _ hx2)).trans hx2; replace hx3 := (hB.cell (World.block_lt_of_cell? w0 _ hx3)).trans hx3; replace hx4 := (hB.cell (World.block_lt_of_cell? w0 _ hx4)).trans hx4
  obtain ⟨x, hxd⟩ : ∃ x, rd_T121 nodes (k : Int) = x := ⟨_, rfl⟩
  rw [hxd] at hx0 hx1 hx2 hx3 hx4 hc2 hC2 hop
  rw [hop] at hx0
  clear hxd
  skip
  obtain ⟨cg, hG, hcg, hgm⟩ := Memo.head hM
  have hm0 : w.cell? ⟨gm, 0, none⟩ = some (.slice (some ad) nodes.length cn) := (blk_cell hG 0).trans rfl
  have hm1 : w.cell? ⟨gm, 1, none⟩ = some (.string tx) := (blk_cell hG 1).trans rfl
  have ha1 : (w.alloc (.cells #[.int .i64 2, .slice A1 x.f1.length c1, .slice A2 x.f2.length c2, .int .i64 x.f3, .int .i64 x.f4] 121)).cell? ⟨gm, 1, none⟩ = some (.string tx) := (blk_cell (blk_alloc hG _) 1).trans rfl
  have hkz : (k : Int) < (nodes.length : Int) := by omega
  have hk0 : (0 : Int) ≤ (k : Int) := by omega
  obtain ⟨gn, hgn⟩ : ∃ gn, w.heap.size = gn := ⟨_, rfl⟩
  have HGN : J0 (gn ≠ gg) := ⟨by have := Memo.gg_lt hM; omega⟩
  have BN : J0 ((w.alloc (.cells #[.int .i64 2, .slice A1 x.f1.length c1, .slice A2 x.f2.length c2, .int .i64 x.f3, .int .i64 x.f4] 121)).heap[gn]? = some (.cells #[.int .i64 2, .slice A1 x.f1.length c1, .slice A2 x.f2.length c2, .int .i64 x.f3, .int .i64 x.f4] 121 (0, 0))) := ⟨by rw [← hgn]; exact blk_new w _⟩
  have HK := q_ (MK.below (gg := gg) (below_alloc (Below.refl w.heap.size w) (.cells #[.int .i64 2, .slice A1 x.f1.length c1, .slice A2 x.f2.length c2, .int .i64 x.f3, .int .i64 x.f4] 121))); have HB := q_ (below_alloc hB (.cells #[.int .i64 2, .slice A1 x.f1.length c1, .slice A2 x.f2.length c2, .int .i64 x.f3, .int .i64 x.f4] 121)); have HM := q_ (Memo.below hM (below_alloc (Below.refl w.heap.size w) (.cells #[.int .i64 2, .slice A1 x.f1.length c1, .slice A2 x.f2.length c2, .int .i64 x.f3, .int .i64 x.f4] 121))); have HE := q_ hE; clear hG hM hB hE
  go_enter Tryz.func117, Tryz.ntmps117
  go_upto_region 5 with (first | ((with_reducible refine gate_dst (N := 26) rfl ?_); refine Kd.R_make Kd.bool _ 4 rfl (N := 26) rfl 114 _ _ rfl (1 : Int) rfl rfl Tryz.underlying114 (.bool false) 1 info4 rfl (by decide) (by omega) false (ok := fun _ => True) (okp := fun _ => True) rfl (fun _ hk => hk) trivial (by omega) (by decide) (Below.refl _ _) (Nat.le_refl _) ?_; intro H8v w_ ho hb hg_ hnew_; clear hg_; replace ho : Kd.R Kd.bool 4 w_ _ (fun _ => True) H8v [false] := ho; have H8 := q_ (Row.new ho HB.o (Memo.gg_lt HM.o)); have nBN := q_ (blk_below BN.o hb); clear BN; have BN := nBN; clear nBN; have nM := q_ (Memo.below HM.o hb); have nB := q_ (below_step HB.o hb); have nK := q_ (HK.o.trans (MK.below hb)); clear HM HB HK ho hb hnew_; have HM := nM; have HB := nB; have HK := nK; clear nM nB nK; obtain ⟨cg_, hG_, _, _⟩ := Memo.head HM.o; have ha2 : w_.cell? ⟨gm, 1, none⟩ = some (.string tx) := (blk_cell hG_ 1).trans rfl; clear hG_) | ((with_reducible refine gate_dst (N := 33) rfl ?_); refine Kd.R_make Kd.bool _ 4 rfl (N := 33) rfl 114 _ _ rfl (1 : Int) rfl rfl Tryz.underlying114 (.bool false) 1 info4 rfl (by decide) (by omega) false (ok := fun _ => True) (okp := fun _ => True) rfl (fun _ hk => hk) trivial (by omega) (by decide) (Below.refl _ _) (Nat.le_refl _) ?_; intro H9v w_ ho hb hg_ hnew_; clear hg_; replace ho : Kd.R Kd.bool 4 w_ _ (fun _ => True) H9v [false] := ho; have H9 := q_ (Row.new ho HB.o (Memo.gg_lt HM.o)); have HX1 : ∃ W1 : World, Memo w0 gm gg (some ad) cn nodes tx E W1 ∧ Row w0 W1 gg H8v false ∧ W1.heap[gn]? = some (.cells #[.int .i64 2, .slice A1 x.f1.length c1, .slice A2 x.f2.length c2, .int .i64 x.f3, .int .i64 x.f4] 121 (0, 0)) ∧ Below W1.heap.size W1 w_ ∧ (∃ b_, H9v.ownBlock = some b_ ∧ W1.heap.size ≤ b_) ∧ Below w0.heap.size w0 W1 ∧ MK gg w W1 := ⟨_, HM.o, H8.o, BN.o, hb, hnew_, HB.o, HK.o⟩; have nH8 := q_ (Row.keep H8.o (MK.below hb)); clear H8; have H8 := nH8; clear nH8; have nBN := q_ (blk_below BN.o hb); clear BN; have BN := nBN; clear nBN; have nM := q_ (Memo.below HM.o hb); have nB := q_ (below_step HB.o hb); have nK := q_ (HK.o.trans (MK.below hb)); clear HM HB HK ho hb hnew_; have HM := nM; have HB := nB; have HK := nK; clear nM nB nK; obtain ⟨H9g, H9c, rfl, H9h⟩ := Row.form H9.o; have hx9 := Row.cell H9.o; have hf9 := Row.frozen H9.o))
  obtain ⟨W1, hM1, h81, hBN1, hb1, ⟨g9', e9, hg9⟩, hB1, hK1⟩ := HX1
  obtain rfl : H9g = g9' := by simpa [Value.ownBlock] using e9
  have Hbs := below_set hb1 hg9 (j := 0) (v := .bool true); have nH9 := q_ ((Kd.R_put H9.o 0 true).1); clear H8 H9 HM HB HK BN; have HM := q_ (Memo.below hM1 Hbs); have H8 := q_ (Row.keep h81 (MK.below (gg := gg) Hbs)); have HK := q_ (hK1.trans (MK.below (gg := gg) Hbs)); have HB := q_ (below_step hB1 Hbs); have BN := q_ (blk_below hBN1 Hbs)
  have H9 : J0 (Row w0 (w_.setCell ⟨H9g, 0, none⟩ (.bool true)) gg (.slice (some ⟨H9g, 0, none⟩) 1 H9c) true) := nH9
  clear nH9 Hbs hM1 h81 hBN1 hb1 hg9 e9 hB1 hK1 hx9 hf9
  generalize w_.setCell ⟨H9g, 0, none⟩ (.bool true) = w9 at *
  obtain ⟨H8g, H8c, rfl, hH8⟩ := Row.form H8.o; obtain ⟨cg_, hG_, _, _⟩ := Memo.head HM.o
  have ht1 : w9.cell? ⟨gm, 1, none⟩ = some (.string tx) := (blk_cell hG_ 1).trans rfl
  clear hG_
  have hn0 : w9.cell? ⟨gn, 0, none⟩ = some (.int .i64 2) := (blk_cell BN.o 0).trans rfl
  have hn2 : w9.cell? ⟨gn, 2, none⟩ = some (.slice A2 x.f2.length c2) := (blk_cell BN.o 2).trans rfl
  have hn3 : w9.cell? ⟨gn, 3, none⟩ = some (.int .i64 x.f3) := (blk_cell BN.o 3).trans rfl
  have hn4 : w9.cell? ⟨gn, 4, none⟩ = some (.int .i64 x.f4) := (blk_cell BN.o 4).trans rfl
  go_wp2_with fail
  go_quiet (fail)
  go_wp2_with fail
  have HM := HM
  go_ret
  exact ⟨_, rfl, by rw [HE.o]; exact Row.keep H8.o (MK.drewN gg w9 _), Memo.below HM.o (pw_below_drewN (Below.refl _ _) _), HK.o.trans (MK.drewN gg w9 _), pw_below_drewN HB.o _⟩
theorem find_star {w0 : World} {gm gg cn : Nat} {An : Option Addr} {nodes : List S121} {tx : ByteArray} {E : Nat → Bool} (ht : tx.size = 0) (hn : nodes.length ≤ 100000) (k : Nat) (hk1 : k < nodes.length) (hN : Kd.C k121 w0 An nodes.length nodes) (hop : (rd_T121 nodes (k : Int)).f0 = 5) (hlen : (rd_T121 nodes (k : Int)).f2.length = 1) (k0 : Nat) (e0 : rd (rd_T121 nodes (k : Int)).f2 0 = (k0 : Int)) (he0 : EOK w0 gm gg An cn nodes tx E k0) (hE : E k = true) : FOK w0 gm gg An cn nodes tx E k := by
  intro w hM hB
  obtain ⟨ad, A1, c1, A2, c2, rfl, hx0, hx1, hx2, hx3, hx4, _, _, hc2, hC2⟩ := at_T121 hN (k : Int) (by omega) (by omega)
  rw [Int.toNat_natCast] at hx0 hx1 hx2 hx3 hx4
  replace hx0 := (hB.cell (World.block_lt_of_cell? w0 _ hx0)).trans hx0; replace hx1 := (hB.cell (World.block_lt_of_cell? w0 _ hx1)).trans hx1; replace hx2 := (hB.cell (World.block_lt_of_cell? w0 _ hx2)).trans hx2; replace hx3 := (hB.cell (World.block_lt_of_cell? w0 _ hx3)).trans hx3; replace hx4 := (hB.cell (World.block_lt_of_cell? w0 _ hx4)).trans hx4
  obtain ⟨x, hxd⟩ : ∃ x, rd_T121 nodes (k : Int) = x := ⟨_, rfl⟩
  rw [hxd] at hx0 hx1 hx2 hx3 hx4 hc2 hC2 hop hlen e0
  rw [hop] at hx0
  clear hxd
  obtain ⟨ad2, rfl, hkc0⟩ := Kd.at_int hC2 0 (by omega) (by rw [hlen]; decide)
  rw [e0] at hkc0
  rw [show (0 : Int).toNat = 0 from rfl] at hkc0
  rw [hlen] at hx2
  clear hC2 hc2 hlen; obtain ⟨cg, hG, hcg, hgm⟩ := Memo.head hM
  have hm0 : w.cell? ⟨gm, 0, none⟩ = some (.slice (some ad) nodes.length cn) := (blk_cell hG 0).trans rfl
  have hm1 : w.cell? ⟨gm, 1, none⟩ = some (.string tx) := (blk_cell hG 1).trans rfl
  have ha1 : (w.alloc (.cells #[.int .i64 5, .slice A1 x.f1.length c1, .slice (some ad2) 1 c2, .int .i64 x.f3, .int .i64 x.f4] 121)).cell? ⟨gm, 1, none⟩ = some (.string tx) := (blk_cell (blk_alloc hG _) 1).trans rfl
  have hkz : (k : Int) < (nodes.length : Int) := by omega
  have hk0 : (0 : Int) ≤ (k : Int) := by omega
  obtain ⟨gn, hgn⟩ : ∃ gn, w.heap.size = gn := ⟨_, rfl⟩
  have HGN : J0 (gn ≠ gg) := ⟨by have := Memo.gg_lt hM; omega⟩
  have BN : J0 ((w.alloc (.cells #[.int .i64 5, .slice A1 x.f1.length c1, .slice (some ad2) 1 c2, .int .i64 x.f3, .int .i64 x.f4] 121)).heap[gn]? = some (.cells #[.int .i64 5, .slice A1 x.f1.length c1, .slice (some ad2) 1 c2, .int .i64 x.f3, .int .i64 x.f4] 121 (0, 0))) := ⟨by rw [← hgn]; exact blk_new w _⟩
  have HK := q_ (MK.below (gg := gg) (below_alloc (Below.refl w.heap.size w) (.cells #[.int .i64 5, .slice A1 x.f1.length c1, .slice (some ad2) 1 c2, .int .i64 x.f3, .int .i64 x.f4] 121))); have HB := q_ (below_alloc hB (.cells #[.int .i64 5, .slice A1 x.f1.length c1, .slice (some ad2) 1 c2, .int .i64 x.f3, .int .i64 x.f4] 121)); have HM := q_ (Memo.below hM (below_alloc (Below.refl w.heap.size w) (.cells #[.int .i64 5, .slice A1 x.f1.length c1, .slice (some ad2) 1 c2, .int .i64 x.f3, .int .i64 x.f4] 121))); have HE := q_ hE; clear hG hM hB hE
  go_enter Tryz.func117, Tryz.ntmps117
  go_upto_region 5 with (first | ((with_reducible refine gate_dst (N := 26) rfl ?_); refine Kd.R_make Kd.bool _ 4 rfl (N := 26) rfl 114 _ _ rfl (1 : Int) rfl rfl Tryz.underlying114 (.bool false) 1 info4 rfl (by decide) (by omega) false (ok := fun _ => True) (okp := fun _ => True) rfl (fun _ hk => hk) trivial (by omega) (by decide) (Below.refl _ _) (Nat.le_refl _) ?_; intro H8v w_ ho hb hg_ hnew_; clear hg_; replace ho : Kd.R Kd.bool 4 w_ _ (fun _ => True) H8v [false] := ho; have H8 := q_ (Row.new ho HB.o (Memo.gg_lt HM.o)); have nBN := q_ (blk_below BN.o hb); clear BN; have BN := nBN; clear nBN; have nM := q_ (Memo.below HM.o hb); have nB := q_ (below_step HB.o hb); have nK := q_ (HK.o.trans (MK.below hb)); clear HM HB HK ho hb hnew_; have HM := nM; have HB := nB; have HK := nK; clear nM nB nK; obtain ⟨cg_, hG_, _, _⟩ := Memo.head HM.o; have ha2 : w_.cell? ⟨gm, 1, none⟩ = some (.string tx) := (blk_cell hG_ 1).trans rfl; clear hG_) | ((with_reducible refine gate_dst (N := 33) rfl ?_); refine Kd.R_make Kd.bool _ 4 rfl (N := 33) rfl 114 _ _ rfl (1 : Int) rfl rfl Tryz.underlying114 (.bool false) 1 info4 rfl (by decide) (by omega) false (ok := fun _ => True) (okp := fun _ => True) rfl (fun _ hk => hk) trivial (by omega) (by decide) (Below.refl _ _) (Nat.le_refl _) ?_; intro H9v w_ ho hb hg_ hnew_; clear hg_; replace ho : Kd.R Kd.bool 4 w_ _ (fun _ => True) H9v [false] := ho; have H9 := q_ (Row.new ho HB.o (Memo.gg_lt HM.o)); have HX1 : ∃ W1 : World, Memo w0 gm gg (some ad) cn nodes tx E W1 ∧ Row w0 W1 gg H8v false ∧ W1.heap[gn]? = some (.cells #[.int .i64 5, .slice A1 x.f1.length c1, .slice (some ad2) 1 c2, .int .i64 x.f3, .int .i64 x.f4] 121 (0, 0)) ∧ Below W1.heap.size W1 w_ ∧ (∃ b_, H9v.ownBlock = some b_ ∧ W1.heap.size ≤ b_) ∧ Below w0.heap.size w0 W1 ∧ MK gg w W1 := ⟨_, HM.o, H8.o, BN.o, hb, hnew_, HB.o, HK.o⟩; have nH8 := q_ (Row.keep H8.o (MK.below hb)); clear H8; have H8 := nH8; clear nH8; have nBN := q_ (blk_below BN.o hb); clear BN; have BN := nBN; clear nBN; have nM := q_ (Memo.below HM.o hb); have nB := q_ (below_step HB.o hb); have nK := q_ (HK.o.trans (MK.below hb)); clear HM HB HK ho hb hnew_; have HM := nM; have HB := nB; have HK := nK; clear nM nB nK; obtain ⟨H9g, H9c, rfl, H9h⟩ := Row.form H9.o; have hx9 := Row.cell H9.o; have hf9 := Row.frozen H9.o))
  obtain ⟨W1, hM1, h81, hBN1, hb1, ⟨g9', e9, hg9⟩, hB1, hK1⟩ := HX1
  obtain rfl : H9g = g9' := by simpa [Value.ownBlock] using e9
  have Hbs := below_set hb1 hg9 (j := 0) (v := .bool true); have nH9 := q_ ((Kd.R_put H9.o 0 true).1); clear H8 H9 HM HB HK BN; have HM := q_ (Memo.below hM1 Hbs); have H8 := q_ (Row.keep h81 (MK.below (gg := gg) Hbs)); have HK := q_ (hK1.trans (MK.below (gg := gg) Hbs)); have HB := q_ (below_step hB1 Hbs); have BN := q_ (blk_below hBN1 Hbs)
  have H9 : J0 (Row w0 (w_.setCell ⟨H9g, 0, none⟩ (.bool true)) gg (.slice (some ⟨H9g, 0, none⟩) 1 H9c) true) := nH9
  clear nH9 Hbs hM1 h81 hBN1 hb1 hg9 e9 hB1 hK1 hx9 hf9
  generalize w_.setCell ⟨H9g, 0, none⟩ (.bool true) = w9 at *
  obtain ⟨H8g, H8c, rfl, hH8⟩ := Row.form H8.o; obtain ⟨cg_, hG_, _, _⟩ := Memo.head HM.o
  have ht1 : w9.cell? ⟨gm, 1, none⟩ = some (.string tx) := (blk_cell hG_ 1).trans rfl
  clear hG_
  have hn0 : w9.cell? ⟨gn, 0, none⟩ = some (.int .i64 5) := (blk_cell BN.o 0).trans rfl
  have hn2 : w9.cell? ⟨gn, 2, none⟩ = some (.slice (some ad2) 1 c2) := (blk_cell BN.o 2).trans rfl
  have hn3 : w9.cell? ⟨gn, 3, none⟩ = some (.int .i64 x.f3) := (blk_cell BN.o 3).trans rfl
  have hn4 : w9.cell? ⟨gn, 4, none⟩ = some (.int .i64 x.f4) := (blk_cell BN.o 4).trans rfl
  have hq0 := (HB.o.cell (World.block_lt_of_cell? w0 _ hkc0)).trans hkc0; have hz0 := hq0
  rw [show ad2.add 0 = ad2 by cases ad2; rfl] at hz0
  have HE0 := q_ he0; clear hkc0 he0
  go_wp2_with (go_at_call 123; refine (again_of k0 HE0.o _ true _ HM.o HB.o H9.o).mono ?_; rintro e w_ ⟨v_, rfl, hR_, hM_, hK_, hB_⟩; have HA := q_ hR_; have nK := q_ (HK.o.trans hK_); clear HM HB HK hR_ hK_; have HM := q_ hM_; have HB := q_ hB_; have HK := nK; clear nK hM_ hB_)
  go_ret
  exact ⟨_, rfl, by rw [HE.o]; exact HA.o, HM.o, HK.o, HB.o⟩
theorem find_maybe {w0 : World} {gm gg cn : Nat} {An : Option Addr} {nodes : List S121} {tx : ByteArray} {E : Nat → Bool} (ht : tx.size = 0) (hn : nodes.length ≤ 100000) (k : Nat) (hk1 : k < nodes.length) (hN : Kd.C k121 w0 An nodes.length nodes) (hop : (rd_T121 nodes (k : Int)).f0 = 7) (hlen : (rd_T121 nodes (k : Int)).f2.length = 1) (k0 : Nat) (e0 : rd (rd_T121 nodes (k : Int)).f2 0 = (k0 : Int)) (he0 : EOK w0 gm gg An cn nodes tx E k0) (hE : E k = true) : FOK w0 gm gg An cn nodes tx E k := by
  intro w hM hB
  obtain ⟨ad, A1, c1, A2, c2, rfl, hx0, hx1, hx2, hx3, hx4, _, _, hc2, hC2⟩ := at_T121 hN (k : Int) (by omega) (by omega)
  rw [Int.toNat_natCast] at hx0 hx1 hx2 hx3 hx4
  replace hx0 := (hB.cell (World.block_lt_of_cell? w0 _ hx0)).trans hx0; replace hx1 := (hB.cell (World.block_lt_of_cell? w0 _ hx1)).trans hx1; replace hx2 := (hB.cell (World.block_lt_of_cell? w0 _ hx2)).trans hx2; replace hx3 := (hB.cell (World.block_lt_of_cell? w0 _ hx3)).trans hx3; replace hx4 := (hB.cell (World.block_lt_of_cell? w0 _ hx4)).trans hx4
  obtain ⟨x, hxd⟩ : ∃ x, rd_T121 nodes (k : Int) = x := ⟨_, rfl⟩
  rw [hxd] at hx0 hx1 hx2 hx3 hx4 hc2 hC2 hop hlen e0
  rw [hop] at hx0
  clear hxd
  obtain ⟨ad2, rfl, hkc0⟩ := Kd.at_int hC2 0 (by omega) (by rw [hlen]; decide)
  rw [e0] at hkc0
  rw [show (0 : Int).toNat = 0 from rfl] at hkc0
  rw [hlen] at hx2
  clear hC2 hc2 hlen; obtain ⟨cg, hG, hcg, hgm⟩ := Memo.head hM
  have hm0 : w.cell? ⟨gm, 0, none⟩ = some (.slice (some ad) nodes.length cn) := (blk_cell hG 0).trans rfl
  have hm1 : w.cell? ⟨gm, 1, none⟩ = some (.string tx) := (blk_cell hG 1).trans rfl
  have ha1 : (w.alloc (.cells #[.int .i64 7, .slice A1 x.f1.length c1, .slice (some ad2) 1 c2, .int .i64 x.f3, .int .i64 x.f4] 121)).cell? ⟨gm, 1, none⟩ = some (.string tx) := (blk_cell (blk_alloc hG _) 1).trans rfl
  have hkz : (k : Int) < (nodes.length : Int) := by omega
  have hk0 : (0 : Int) ≤ (k : Int) := by omega
  obtain ⟨gn, hgn⟩ : ∃ gn, w.heap.size = gn := ⟨_, rfl⟩
  have HGN : J0 (gn ≠ gg) := ⟨by have := Memo.gg_lt hM; omega⟩
  have BN : J0 ((w.alloc (.cells #[.int .i64 7, .slice A1 x.f1.length c1, .slice (some ad2) 1 c2, .int .i64 x.f3, .int .i64 x.f4] 121)).heap[gn]? = some (.cells #[.int .i64 7, .slice A1 x.f1.length c1, .slice (some ad2) 1 c2, .int .i64 x.f3, .int .i64 x.f4] 121 (0, 0))) := ⟨by rw [← hgn]; exact blk_new w _⟩
  have HK := q_ (MK.below (gg := gg) (below_alloc (Below.refl w.heap.size w) (.cells #[.int .i64 7, .slice A1 x.f1.length c1, .slice (some ad2) 1 c2, .int .i64 x.f3, .int .i64 x.f4] 121))); have HB := q_ (below_alloc hB (.cells #[.int .i64 7, .slice A1 x.f1.length c1, .slice (some ad2) 1 c2, .int .i64 x.f3, .int .i64 x.f4] 121)); have HM := q_ (Memo.below hM (below_alloc (Below.refl w.heap.size w) (.cells #[.int .i64 7, .slice A1 x.f1.length c1, .slice (some ad2) 1 c2, .int .i64 x.f3, .int .i64 x.f4] 121))); have HE := q_ hE; clear hG hM hB hE
  go_enter Tryz.func117, Tryz.ntmps117
  go_upto_region 5 with (first | ((with_reducible refine gate_dst (N := 26) rfl ?_); refine Kd.R_make Kd.bool _ 4 rfl (N := 26) rfl 114 _ _ rfl (1 : Int) rfl rfl Tryz.underlying114 (.bool false) 1 info4 rfl (by decide) (by omega) false (ok := fun _ => True) (okp := fun _ => True) rfl (fun _ hk => hk) trivial (by omega) (by decide) (Below.refl _ _) (Nat.le_refl _) ?_; intro H8v w_ ho hb hg_ hnew_; clear hg_; replace ho : Kd.R Kd.bool 4 w_ _ (fun _ => True) H8v [false] := ho; have H8 := q_ (Row.new ho HB.o (Memo.gg_lt HM.o)); have nBN := q_ (blk_below BN.o hb); clear BN; have BN := nBN; clear nBN; have nM := q_ (Memo.below HM.o hb); have nB := q_ (below_step HB.o hb); have nK := q_ (HK.o.trans (MK.below hb)); clear HM HB HK ho hb hnew_; have HM := nM; have HB := nB; have HK := nK; clear nM nB nK; obtain ⟨cg_, hG_, _, _⟩ := Memo.head HM.o; have ha2 : w_.cell? ⟨gm, 1, none⟩ = some (.string tx) := (blk_cell hG_ 1).trans rfl; clear hG_) | ((with_reducible refine gate_dst (N := 33) rfl ?_); refine Kd.R_make Kd.bool _ 4 rfl (N := 33) rfl 114 _ _ rfl (1 : Int) rfl rfl Tryz.underlying114 (.bool false) 1 info4 rfl (by decide) (by omega) false (ok := fun _ => True) (okp := fun _ => True) rfl (fun _ hk => hk) trivial (by omega) (by decide) (Below.refl _ _) (Nat.le_refl _) ?_; intro H9v w_ ho hb hg_ hnew_; clear hg_; replace ho : Kd.R Kd.bool 4 w_ _ (fun _ => True) H9v [false] := ho; have H9 := q_ (Row.new ho HB.o (Memo.gg_lt HM.o)); have HX1 : ∃ W1 : World, Memo w0 gm gg (some ad) cn nodes tx E W1 ∧ Row w0 W1 gg H8v false ∧ W1.heap[gn]? = some (.cells #[.int .i64 7, .slice A1 x.f1.length c1, .slice (some ad2) 1 c2, .int .i64 x.f3, .int .i64 x.f4] 121 (0, 0)) ∧ Below W1.heap.size W1 w_ ∧ (∃ b_, H9v.ownBlock = some b_ ∧ W1.heap.size ≤ b_) ∧ Below w0.heap.size w0 W1 ∧ MK gg w W1 := ⟨_, HM.o, H8.o, BN.o, hb, hnew_, HB.o, HK.o⟩; have nH8 := q_ (Row.keep H8.o (MK.below hb)); clear H8; have H8 := nH8; clear nH8; have nBN := q_ (blk_below BN.o hb); clear BN; have BN := nBN; clear nBN; have nM := q_ (Memo.below HM.o hb); have nB := q_ (below_step HB.o hb); have nK := q_ (HK.o.trans (MK.below hb)); clear HM HB HK ho hb hnew_; have HM := nM; have HB := nB; have HK := nK; clear nM nB nK; obtain ⟨H9g, H9c, rfl, H9h⟩ := Row.form H9.o; have hx9 := Row.cell H9.o; have hf9 := Row.frozen H9.o))
  obtain ⟨W1, hM1, h81, hBN1, hb1, ⟨g9', e9, hg9⟩, hB1, hK1⟩ := HX1
  obtain rfl : H9g = g9' := by simpa [Value.ownBlock] using e9
  have Hbs := below_set hb1 hg9 (j := 0) (v := .bool true); have nH9 := q_ ((Kd.R_put H9.o 0 true).1); clear H8 H9 HM HB HK BN; have HM := q_ (Memo.below hM1 Hbs); have H8 := q_ (Row.keep h81 (MK.below (gg := gg) Hbs)); have HK := q_ (hK1.trans (MK.below (gg := gg) Hbs)); have HB := q_ (below_step hB1 Hbs); have BN := q_ (blk_below hBN1 Hbs)
  have H9 : J0 (Row w0 (w_.setCell ⟨H9g, 0, none⟩ (.bool true)) gg (.slice (some ⟨H9g, 0, none⟩) 1 H9c) true) := nH9
  clear nH9 Hbs hM1 h81 hBN1 hb1 hg9 e9 hB1 hK1 hx9 hf9
  generalize w_.setCell ⟨H9g, 0, none⟩ (.bool true) = w9 at *
  obtain ⟨H8g, H8c, rfl, hH8⟩ := Row.form H8.o; obtain ⟨cg_, hG_, _, _⟩ := Memo.head HM.o
  have ht1 : w9.cell? ⟨gm, 1, none⟩ = some (.string tx) := (blk_cell hG_ 1).trans rfl
  clear hG_
  have hn0 : w9.cell? ⟨gn, 0, none⟩ = some (.int .i64 7) := (blk_cell BN.o 0).trans rfl
  have hn2 : w9.cell? ⟨gn, 2, none⟩ = some (.slice (some ad2) 1 c2) := (blk_cell BN.o 2).trans rfl
  have hn3 : w9.cell? ⟨gn, 3, none⟩ = some (.int .i64 x.f3) := (blk_cell BN.o 3).trans rfl
  have hn4 : w9.cell? ⟨gn, 4, none⟩ = some (.int .i64 x.f4) := (blk_cell BN.o 4).trans rfl
  have hq0 := (HB.o.cell (World.block_lt_of_cell? w0 _ hkc0)).trans hkc0; have hz0 := hq0
  rw [show ad2.add 0 = ad2 by cases ad2; rfl] at hz0
  have HE0 := q_ he0; clear hkc0 he0
  go_wp2_with (first | (go_at_call 113; refine (HE0.o _ HM.o HB.o).mono ?_; rintro e w_ ⟨v_, rfl, hR_, hM_, hK_, hB_⟩; have nH9 := q_ (Row.keep H9.o hK_); clear H9; have H9 := nH9; clear nH9; obtain ⟨g_, c_, rfl, hc_⟩ := Row.form hR_; have HA := q_ hR_; have nK := q_ (HK.o.trans hK_); clear HM HB HK hR_ hK_; have HM := q_ hM_; have HB := q_ hB_; have HK := nK; clear nK hM_ hB_) | (go_at_call 122; obtain ⟨k_, hk_⟩ := or_one true (E k0); refine (spec_l4Or.calls k_ _ _ [true] _ _ [(E k0)] _ _ (Row.C H9.o) (Kd.R_reads' H9.o).2.1 (Row.C HA.o) (Kd.R_reads' HA.o).2.1 hk_).mono ?_; rintro e w_ ⟨HOv, rfl, ho, hb⟩; have HO := q_ (Row.new ho HB.o (Memo.gg_lt HM.o)); have nM := q_ (Memo.below HM.o hb); have nB := q_ (below_step HB.o hb); have nK := q_ (HK.o.trans (MK.below hb)); clear HM HB HK ho hb hk_; have HM := nM; have HB := nB; have HK := nK; clear nM nB nK))
  go_ret
  exact ⟨_, rfl, by rw [HE.o]; exact (by have h := HO.o; simpa using h), HM.o, HK.o, HB.o⟩
theorem MK.cell {gg : Nat} {w w1 : World} (h : MK gg w w1) {p : Addr} {v : Value} (hc : w.cell? p = some v) (hne : p.block ≠ gg) : w1.cell? p = some v := by
  have hb := h.2 p.block (World.block_lt_of_cell? w p hc) hne
  exact (World.cell?_of_block hb).trans hc
theorem Memo.gg_ge {w0 w : World} {gm gg cn : Nat} {An : Option Addr} {nodes : List S121} {tx : ByteArray} {E : Nat → Bool} (h : Memo w0 gm gg An cn nodes tx E w) : w0.heap.size ≤ gg := by
  obtain ⟨cg, cs, _, _, _, h4, _⟩ := h
  exact h4
theorem find_cat {w0 : World} {gm gg cn : Nat} {An : Option Addr} {nodes : List S121} {tx : ByteArray} {E : Nat → Bool} (ht : tx.size = 0) (hn : nodes.length ≤ 100000) (k : Nat) (hk1 : k < nodes.length) (hN : Kd.C k121 w0 An nodes.length nodes) (hop : (rd_T121 nodes (k : Int)).f0 = 3) (hlen : (rd_T121 nodes (k : Int)).f2.length = 2) (k0 : Nat) (e0 : rd (rd_T121 nodes (k : Int)).f2 0 = (k0 : Int)) (he0 : EOK w0 gm gg An cn nodes tx E k0) (k1 : Nat) (e1 : rd (rd_T121 nodes (k : Int)).f2 1 = (k1 : Int)) (he1 : EOK w0 gm gg An cn nodes tx E k1) (hE : E k = (E k0 && E k1)) : FOK w0 gm gg An cn nodes tx E k := by
  intro w hM hB
  obtain ⟨ad, A1, c1, A2, c2, rfl, hx0, hx1, hx2, hx3, hx4, _, _, hc2, hC2⟩ := at_T121 hN (k : Int) (by omega) (by omega)
  rw [Int.toNat_natCast] at hx0 hx1 hx2 hx3 hx4
  replace hx0 := (hB.cell (World.block_lt_of_cell? w0 _ hx0)).trans hx0; replace hx1 := (hB.cell (World.block_lt_of_cell? w0 _ hx1)).trans hx1; replace hx2 := (hB.cell (World.block_lt_of_cell? w0 _ hx2)).trans hx2; replace hx3 := (hB.cell (World.block_lt_of_cell? w0 _ hx3)).trans hx3; replace hx4 := (hB.cell (World.block_lt_of_cell? w0 _ hx4)).trans hx4
  obtain ⟨x, hxd⟩ : ∃ x, rd_T121 nodes (k : Int) = x := ⟨_, rfl⟩
  rw [hxd] at hx0 hx1 hx2 hx3 hx4 hc2 hC2 hop hlen e0 e1
  rw [hop] at hx0
  clear hxd
  obtain ⟨ad2, rfl, hkc0⟩ := Kd.at_int hC2 0 (by omega) (by rw [hlen]; decide)
  rw [e0] at hkc0
  rw [show (0 : Int).toNat = 0 from rfl] at hkc0
  obtain ⟨ad3, e3, hkc1⟩ := Kd.at_int hC2 1 (by omega) (by rw [hlen]; decide)
  cases e3
  rw [e1] at hkc1
  rw [show (1 : Int).toNat = 1 from rfl] at hkc1
  rw [hlen] at hx2
  clear hC2 hc2 hlen; obtain ⟨cg, hG, hcg, hgm⟩ := Memo.head hM
  have hm0 : w.cell? ⟨gm, 0, none⟩ = some (.slice (some ad) nodes.length cn) := (blk_cell hG 0).trans rfl
  have hm1 : w.cell? ⟨gm, 1, none⟩ = some (.string tx) := (blk_cell hG 1).trans rfl
  have ha1 : (w.alloc (.cells #[.int .i64 3, .slice A1 x.f1.length c1, .slice (some ad2) 2 c2, .int .i64 x.f3, .int .i64 x.f4] 121)).cell? ⟨gm, 1, none⟩ = some (.string tx) := (blk_cell (blk_alloc hG _) 1).trans rfl
  have hkz : (k : Int) < (nodes.length : Int) := by omega
  have hk0 : (0 : Int) ≤ (k : Int) := by omega
  obtain ⟨gn, hgn⟩ : ∃ gn, w.heap.size = gn := ⟨_, rfl⟩
  have HGN : J0 (gn ≠ gg) := ⟨by have := Memo.gg_lt hM; omega⟩
  have BN : J0 ((w.alloc (.cells #[.int .i64 3, .slice A1 x.f1.length c1, .slice (some ad2) 2 c2, .int .i64 x.f3, .int .i64 x.f4] 121)).heap[gn]? = some (.cells #[.int .i64 3, .slice A1 x.f1.length c1, .slice (some ad2) 2 c2, .int .i64 x.f3, .int .i64 x.f4] 121 (0, 0))) := ⟨by rw [← hgn]; exact blk_new w _⟩
  have HK := q_ (MK.below (gg := gg) (below_alloc (Below.refl w.heap.size w) (.cells #[.int .i64 3, .slice A1 x.f1.length c1, .slice (some ad2) 2 c2, .int .i64 x.f3, .int .i64 x.f4] 121))); have HB := q_ (below_alloc hB (.cells #[.int .i64 3, .slice A1 x.f1.length c1, .slice (some ad2) 2 c2, .int .i64 x.f3, .int .i64 x.f4] 121)); have HM := q_ (Memo.below hM (below_alloc (Below.refl w.heap.size w) (.cells #[.int .i64 3, .slice A1 x.f1.length c1, .slice (some ad2) 2 c2, .int .i64 x.f3, .int .i64 x.f4] 121))); have HE := q_ hE; clear hG hM hB hE
  go_enter Tryz.func117, Tryz.ntmps117
  go_upto_region 5 with (first | ((with_reducible refine gate_dst (N := 26) rfl ?_); refine Kd.R_make Kd.bool _ 4 rfl (N := 26) rfl 114 _ _ rfl (1 : Int) rfl rfl Tryz.underlying114 (.bool false) 1 info4 rfl (by decide) (by omega) false (ok := fun _ => True) (okp := fun _ => True) rfl (fun _ hk => hk) trivial (by omega) (by decide) (Below.refl _ _) (Nat.le_refl _) ?_; intro H8v w_ ho hb hg_ hnew_; clear hg_; replace ho : Kd.R Kd.bool 4 w_ _ (fun _ => True) H8v [false] := ho; have H8 := q_ (Row.new ho HB.o (Memo.gg_lt HM.o)); have nBN := q_ (blk_below BN.o hb); clear BN; have BN := nBN; clear nBN; have nM := q_ (Memo.below HM.o hb); have nB := q_ (below_step HB.o hb); have nK := q_ (HK.o.trans (MK.below hb)); clear HM HB HK ho hb hnew_; have HM := nM; have HB := nB; have HK := nK; clear nM nB nK; obtain ⟨cg_, hG_, _, _⟩ := Memo.head HM.o; have ha2 : w_.cell? ⟨gm, 1, none⟩ = some (.string tx) := (blk_cell hG_ 1).trans rfl; clear hG_) | ((with_reducible refine gate_dst (N := 33) rfl ?_); refine Kd.R_make Kd.bool _ 4 rfl (N := 33) rfl 114 _ _ rfl (1 : Int) rfl rfl Tryz.underlying114 (.bool false) 1 info4 rfl (by decide) (by omega) false (ok := fun _ => True) (okp := fun _ => True) rfl (fun _ hk => hk) trivial (by omega) (by decide) (Below.refl _ _) (Nat.le_refl _) ?_; intro H9v w_ ho hb hg_ hnew_; clear hg_; replace ho : Kd.R Kd.bool 4 w_ _ (fun _ => True) H9v [false] := ho; have H9 := q_ (Row.new ho HB.o (Memo.gg_lt HM.o)); have HX1 : ∃ W1 : World, Memo w0 gm gg (some ad) cn nodes tx E W1 ∧ Row w0 W1 gg H8v false ∧ W1.heap[gn]? = some (.cells #[.int .i64 3, .slice A1 x.f1.length c1, .slice (some ad2) 2 c2, .int .i64 x.f3, .int .i64 x.f4] 121 (0, 0)) ∧ Below W1.heap.size W1 w_ ∧ (∃ b_, H9v.ownBlock = some b_ ∧ W1.heap.size ≤ b_) ∧ Below w0.heap.size w0 W1 ∧ MK gg w W1 := ⟨_, HM.o, H8.o, BN.o, hb, hnew_, HB.o, HK.o⟩; have nH8 := q_ (Row.keep H8.o (MK.below hb)); clear H8; have H8 := nH8; clear nH8; have nBN := q_ (blk_below BN.o hb); clear BN; have BN := nBN; clear nBN; have nM := q_ (Memo.below HM.o hb); have nB := q_ (below_step HB.o hb); have nK := q_ (HK.o.trans (MK.below hb)); clear HM HB HK ho hb hnew_; have HM := nM; have HB := nB; have HK := nK; clear nM nB nK; obtain ⟨H9g, H9c, rfl, H9h⟩ := Row.form H9.o; have hx9 := Row.cell H9.o; have hf9 := Row.frozen H9.o))
  obtain ⟨W1, hM1, h81, hBN1, hb1, ⟨g9', e9, hg9⟩, hB1, hK1⟩ := HX1
  obtain rfl : H9g = g9' := by simpa [Value.ownBlock] using e9
  have Hbs := below_set hb1 hg9 (j := 0) (v := .bool true); have nH9 := q_ ((Kd.R_put H9.o 0 true).1); clear H8 H9 HM HB HK BN; have HM := q_ (Memo.below hM1 Hbs); have H8 := q_ (Row.keep h81 (MK.below (gg := gg) Hbs)); have HK := q_ (hK1.trans (MK.below (gg := gg) Hbs)); have HB := q_ (below_step hB1 Hbs); have BN := q_ (blk_below hBN1 Hbs)
  have H9 : J0 (Row w0 (w_.setCell ⟨H9g, 0, none⟩ (.bool true)) gg (.slice (some ⟨H9g, 0, none⟩) 1 H9c) true) := nH9
  clear nH9 Hbs hM1 h81 hBN1 hb1 hg9 e9 hB1 hK1 hx9 hf9
  generalize w_.setCell ⟨H9g, 0, none⟩ (.bool true) = w9 at *
  obtain ⟨H8g, H8c, rfl, hH8⟩ := Row.form H8.o; obtain ⟨cg_, hG_, _, _⟩ := Memo.head HM.o
  have ht1 : w9.cell? ⟨gm, 1, none⟩ = some (.string tx) := (blk_cell hG_ 1).trans rfl
  clear hG_
  have hn0 : w9.cell? ⟨gn, 0, none⟩ = some (.int .i64 3) := (blk_cell BN.o 0).trans rfl
  have hn2 : w9.cell? ⟨gn, 2, none⟩ = some (.slice (some ad2) 2 c2) := (blk_cell BN.o 2).trans rfl
  have hn3 : w9.cell? ⟨gn, 3, none⟩ = some (.int .i64 x.f3) := (blk_cell BN.o 3).trans rfl
  have hn4 : w9.cell? ⟨gn, 4, none⟩ = some (.int .i64 x.f4) := (blk_cell BN.o 4).trans rfl
  have hq0 := (HB.o.cell (World.block_lt_of_cell? w0 _ hkc0)).trans hkc0; have hq1 := (HB.o.cell (World.block_lt_of_cell? w0 _ hkc1)).trans hkc1; have hz0 := hq0
  rw [show ad2.add 0 = ad2 by cases ad2; rfl] at hz0
  have HE0 := q_ he0; have HE1 := q_ he1; have hkb := hkc0; clear hkc0 he0 hkc1 he1; have hs_ := World.cell?_spot hz0
  rw [show ad2.add 1 = ⟨ad2.block, ad2.off + 1, none⟩ by (obtain ⟨b_, o_, s_⟩ := ad2; simp only at hs_; subst hs_; rfl)] at hq1
  go_wp2_with fail
  replace HM : J0 (Memo w0 gm gg (some ad) cn nodes tx E w9.drew) := ⟨Memo.below HM.o (below_drew1 (Below.refl _ _))⟩
  replace HB : J0 (Below w0.heap.size w0 w9.drew) := ⟨below_drew1 HB.o⟩
  replace HK : J0 (MK gg w w9.drew) := ⟨HK.o.trans (MK.below (below_drew1 (Below.refl _ _)))⟩
  replace BN := q_ (blk_drew BN.o)
  have HAD : J0 (ad2.block ≠ gg) := ⟨by have h1 := World.block_lt_of_cell? w0 _ hkb; have h2 := Memo.gg_ge HM.o; rw [add_block] at h1; omega⟩
  refine start_ (n := 14) (S := fun w' => w'.cell? ⟨gn, 2, none⟩ = some (.slice (some ad2) 2 c2) ∧ w'.cell? ad2 = some (.int .i64 (k0 : Int)) ∧ w'.cell? ⟨ad2.block, ad2.off + 1, none⟩ = some (.int .i64 (k1 : Int))) (ds := []) (bb 14 0) (by kernel_rfl) rfl rfl ⟨(blk_cell BN.o 2).trans rfl, hz0, hq1⟩ (fun hHeld => ?_)
  generalize hW1 : w9.drew = W1 at HM HB HK BN hHeld ⊢
  refine pk_ 0 70 1 ?_; refine pk_ 1 71 3 ?_; refine pk_ 5 75 35 ?_; refine pk_ 6 76 99 ?_; refine pk_ 10 80 1123 ?_; refine tk_ 2 72 1127 hHeld ?_; refine pk_ 3 73 1135 ?_; refine tk_ 4 74 1151 hHeld ?_; refine tk_ 7 77 1279 hHeld ?_; refine pk_ 8 78 1535 ?_; refine tk_ 9 79 2047 hHeld ?_
  refine one_ (i := 11) (N := (some 81)) (bb 14 4095) rfl rfl (by kernel_rfl) (by decide) (fun K hK => ?_)
  refine goes_ Tryz.func113 (by kernel_rfl) rfl #[.pointer (some ⟨gm, 0, none⟩), .int .i64 (k0 : Int), .int .i64 0] (by rfl) rfl rfl (by (try simp only [List.map_toArray, List.map_cons, List.map_nil]); first | done | rfl) ?_
  refine (HE0.o _ HM.o HB.o).mono ?_
  rintro e w_ ⟨v_, rfl, hR_, hM_, hK_, hB_⟩
  refine ⟨_, rfl, ?_⟩; obtain ⟨HAg, HAc, rfl, HAh⟩ := Row.form hR_; have HA := q_ hR_; have nK := q_ (HK.o.trans hK_); clear HM HB HK hR_; have HM := q_ hM_; have HB := q_ hB_; have HK := nK; clear nK hM_ hB_
  refine hK.out _ _ ⟨MK.cell hK_ (hHeld.1) HGN.o, MK.cell hK_ (hHeld.2.1) (by have := HAD.o; first | exact this | (show ad2.block ≠ gg; exact this)), MK.cell hK_ (hHeld.2.2) (by have := HAD.o; first | exact this | (show ad2.block ≠ gg; exact this))⟩ (fun hHeld => ?_)
  clear hK_; clear hK K; refine no_ (some 81) ?_
  refine one_ (i := 12) (N := (some 82)) (bb 14 8191) rfl rfl (by kernel_rfl) (by decide) (fun K hK => ?_)
  refine goes_ Tryz.func121 (by kernel_rfl) rfl #[.pointer (some ⟨gm, 0, none⟩), .int .i64 (k1 : Int), .slice (some ⟨HAg, 0, none⟩) 1 HAc] (by rfl) rfl rfl (by (try simp only [List.map_toArray, List.map_cons, List.map_nil]); first | done | rfl) ?_
  refine (step_of k1 HE1.o _ (E k0) _ HM.o HB.o HA.o).mono ?_
  rintro e w_ ⟨v_, rfl, hR_, hM_, hK_, hB_⟩
  refine ⟨_, rfl, ?_⟩; obtain ⟨HOg, HOc, rfl, HOh⟩ := Row.form hR_; have HO := q_ hR_; have nK := q_ (HK.o.trans hK_); clear HM HB HK hR_; have HM := q_ hM_; have HB := q_ hB_; have HK := nK; clear nK hM_ hB_
  refine hK.out _ _ ⟨MK.cell hK_ (hHeld.1) HGN.o, MK.cell hK_ (hHeld.2.1) (by have := HAD.o; first | exact this | (show ad2.block ≠ gg; exact this)), MK.cell hK_ (hHeld.2.2) (by have := HAD.o; first | exact this | (show ad2.block ≠ gg; exact this))⟩ (fun hHeld => ?_)
  clear hK_; clear hK K; refine no_ (some 82) ?_; refine pk_ 13 6 16383 ?_
  refine done_ (by kernel_rfl) ?_
  go_wp2_with fail
  go_ret
  exact ⟨_, rfl, by rw [HE.o]; exact HO.o, HM.o, HK.o, HB.o⟩
theorem find_alt {w0 : World} {gm gg cn : Nat} {An : Option Addr} {nodes : List S121} {tx : ByteArray} {E : Nat → Bool} (ht : tx.size = 0) (hn : nodes.length ≤ 100000) (k : Nat) (hk1 : k < nodes.length) (hN : Kd.C k121 w0 An nodes.length nodes) (hop : (rd_T121 nodes (k : Int)).f0 = 4) (hlen : (rd_T121 nodes (k : Int)).f2.length = 2) (k0 : Nat) (e0 : rd (rd_T121 nodes (k : Int)).f2 0 = (k0 : Int)) (he0 : EOK w0 gm gg An cn nodes tx E k0) (k1 : Nat) (e1 : rd (rd_T121 nodes (k : Int)).f2 1 = (k1 : Int)) (he1 : EOK w0 gm gg An cn nodes tx E k1) (hE : E k = (E k0 || E k1)) : FOK w0 gm gg An cn nodes tx E k := by
  intro w hM hB
  obtain ⟨ad, A1, c1, A2, c2, rfl, hx0, hx1, hx2, hx3, hx4, _, _, hc2, hC2⟩ := at_T121 hN (k : Int) (by omega) (by omega)
  rw [Int.toNat_natCast] at hx0 hx1 hx2 hx3 hx4
  replace hx0 := (hB.cell (World.block_lt_of_cell? w0 _ hx0)).trans hx0; replace hx1 := (hB.cell (World.block_lt_of_cell? w0 _ hx1)).trans hx1; replace hx2 := (hB.cell (World.block_lt_of_cell? w0 _ hx2)).trans hx2; replace hx3 := (hB.cell (World.block_lt_of_cell? w0 _ hx3)).trans hx3; replace hx4 := (hB.cell (World.block_lt_of_cell? w0 _ hx4)).trans hx4
  obtain ⟨x, hxd⟩ : ∃ x, rd_T121 nodes (k : Int) = x := ⟨_, rfl⟩
  rw [hxd] at hx0 hx1 hx2 hx3 hx4 hc2 hC2 hop hlen e0 e1
  rw [hop] at hx0
  clear hxd
  obtain ⟨ad2, rfl, hkc0⟩ := Kd.at_int hC2 0 (by omega) (by rw [hlen]; decide)
  rw [e0] at hkc0
  rw [show (0 : Int).toNat = 0 from rfl] at hkc0
  obtain ⟨ad3, e3, hkc1⟩ := Kd.at_int hC2 1 (by omega) (by rw [hlen]; decide)
  cases e3
  rw [e1] at hkc1
  rw [show (1 : Int).toNat = 1 from rfl] at hkc1
  rw [hlen] at hx2
  clear hC2 hc2 hlen; obtain ⟨cg, hG, hcg, hgm⟩ := Memo.head hM
  have hm0 : w.cell? ⟨gm, 0, none⟩ = some (.slice (some ad) nodes.length cn) := (blk_cell hG 0).trans rfl
  have hm1 : w.cell? ⟨gm, 1, none⟩ = some (.string tx) := (blk_cell hG 1).trans rfl
  have ha1 : (w.alloc (.cells #[.int .i64 4, .slice A1 x.f1.length c1, .slice (some ad2) 2 c2, .int .i64 x.f3, .int .i64 x.f4] 121)).cell? ⟨gm, 1, none⟩ = some (.string tx) := (blk_cell (blk_alloc hG _) 1).trans rfl
  have hkz : (k : Int) < (nodes.length : Int) := by omega
  have hk0 : (0 : Int) ≤ (k : Int) := by omega
  obtain ⟨gn, hgn⟩ : ∃ gn, w.heap.size = gn := ⟨_, rfl⟩
  have HGN : J0 (gn ≠ gg) := ⟨by have := Memo.gg_lt hM; omega⟩
  have BN : J0 ((w.alloc (.cells #[.int .i64 4, .slice A1 x.f1.length c1, .slice (some ad2) 2 c2, .int .i64 x.f3, .int .i64 x.f4] 121)).heap[gn]? = some (.cells #[.int .i64 4, .slice A1 x.f1.length c1, .slice (some ad2) 2 c2, .int .i64 x.f3, .int .i64 x.f4] 121 (0, 0))) := ⟨by rw [← hgn]; exact blk_new w _⟩
  have HK := q_ (MK.below (gg := gg) (below_alloc (Below.refl w.heap.size w) (.cells #[.int .i64 4, .slice A1 x.f1.length c1, .slice (some ad2) 2 c2, .int .i64 x.f3, .int .i64 x.f4] 121))); have HB := q_ (below_alloc hB (.cells #[.int .i64 4, .slice A1 x.f1.length c1, .slice (some ad2) 2 c2, .int .i64 x.f3, .int .i64 x.f4] 121)); have HM := q_ (Memo.below hM (below_alloc (Below.refl w.heap.size w) (.cells #[.int .i64 4, .slice A1 x.f1.length c1, .slice (some ad2) 2 c2, .int .i64 x.f3, .int .i64 x.f4] 121))); have HE := q_ hE; clear hG hM hB hE
  go_enter Tryz.func117, Tryz.ntmps117
  go_upto_region 5 with (first | ((with_reducible refine gate_dst (N := 26) rfl ?_); refine Kd.R_make Kd.bool _ 4 rfl (N := 26) rfl 114 _ _ rfl (1 : Int) rfl rfl Tryz.underlying114 (.bool false) 1 info4 rfl (by decide) (by omega) false (ok := fun _ => True) (okp := fun _ => True) rfl (fun _ hk => hk) trivial (by omega) (by decide) (Below.refl _ _) (Nat.le_refl _) ?_; intro H8v w_ ho hb hg_ hnew_; clear hg_; replace ho : Kd.R Kd.bool 4 w_ _ (fun _ => True) H8v [false] := ho; have H8 := q_ (Row.new ho HB.o (Memo.gg_lt HM.o)); have nBN := q_ (blk_below BN.o hb); clear BN; have BN := nBN; clear nBN; have nM := q_ (Memo.below HM.o hb); have nB := q_ (below_step HB.o hb); have nK := q_ (HK.o.trans (MK.below hb)); clear HM HB HK ho hb hnew_; have HM := nM; have HB := nB; have HK := nK; clear nM nB nK; obtain ⟨cg_, hG_, _, _⟩ := Memo.head HM.o; have ha2 : w_.cell? ⟨gm, 1, none⟩ = some (.string tx) := (blk_cell hG_ 1).trans rfl; clear hG_) | ((with_reducible refine gate_dst (N := 33) rfl ?_); refine Kd.R_make Kd.bool _ 4 rfl (N := 33) rfl 114 _ _ rfl (1 : Int) rfl rfl Tryz.underlying114 (.bool false) 1 info4 rfl (by decide) (by omega) false (ok := fun _ => True) (okp := fun _ => True) rfl (fun _ hk => hk) trivial (by omega) (by decide) (Below.refl _ _) (Nat.le_refl _) ?_; intro H9v w_ ho hb hg_ hnew_; clear hg_; replace ho : Kd.R Kd.bool 4 w_ _ (fun _ => True) H9v [false] := ho; have H9 := q_ (Row.new ho HB.o (Memo.gg_lt HM.o)); have HX1 : ∃ W1 : World, Memo w0 gm gg (some ad) cn nodes tx E W1 ∧ Row w0 W1 gg H8v false ∧ W1.heap[gn]? = some (.cells #[.int .i64 4, .slice A1 x.f1.length c1, .slice (some ad2) 2 c2, .int .i64 x.f3, .int .i64 x.f4] 121 (0, 0)) ∧ Below W1.heap.size W1 w_ ∧ (∃ b_, H9v.ownBlock = some b_ ∧ W1.heap.size ≤ b_) ∧ Below w0.heap.size w0 W1 ∧ MK gg w W1 := ⟨_, HM.o, H8.o, BN.o, hb, hnew_, HB.o, HK.o⟩; have nH8 := q_ (Row.keep H8.o (MK.below hb)); clear H8; have H8 := nH8; clear nH8; have nBN := q_ (blk_below BN.o hb); clear BN; have BN := nBN; clear nBN; have nM := q_ (Memo.below HM.o hb); have nB := q_ (below_step HB.o hb); have nK := q_ (HK.o.trans (MK.below hb)); clear HM HB HK ho hb hnew_; have HM := nM; have HB := nB; have HK := nK; clear nM nB nK; obtain ⟨H9g, H9c, rfl, H9h⟩ := Row.form H9.o; have hx9 := Row.cell H9.o; have hf9 := Row.frozen H9.o))
  obtain ⟨W1, hM1, h81, hBN1, hb1, ⟨g9', e9, hg9⟩, hB1, hK1⟩ := HX1
  obtain rfl : H9g = g9' := by simpa [Value.ownBlock] using e9
  have Hbs := below_set hb1 hg9 (j := 0) (v := .bool true); have nH9 := q_ ((Kd.R_put H9.o 0 true).1); clear H8 H9 HM HB HK BN; have HM := q_ (Memo.below hM1 Hbs); have H8 := q_ (Row.keep h81 (MK.below (gg := gg) Hbs)); have HK := q_ (hK1.trans (MK.below (gg := gg) Hbs)); have HB := q_ (below_step hB1 Hbs); have BN := q_ (blk_below hBN1 Hbs)
  have H9 : J0 (Row w0 (w_.setCell ⟨H9g, 0, none⟩ (.bool true)) gg (.slice (some ⟨H9g, 0, none⟩) 1 H9c) true) := nH9
  clear nH9 Hbs hM1 h81 hBN1 hb1 hg9 e9 hB1 hK1 hx9 hf9
  generalize w_.setCell ⟨H9g, 0, none⟩ (.bool true) = w9 at *
  obtain ⟨H8g, H8c, rfl, hH8⟩ := Row.form H8.o; obtain ⟨cg_, hG_, _, _⟩ := Memo.head HM.o
  have ht1 : w9.cell? ⟨gm, 1, none⟩ = some (.string tx) := (blk_cell hG_ 1).trans rfl
  clear hG_
  have hn0 : w9.cell? ⟨gn, 0, none⟩ = some (.int .i64 4) := (blk_cell BN.o 0).trans rfl
  have hn2 : w9.cell? ⟨gn, 2, none⟩ = some (.slice (some ad2) 2 c2) := (blk_cell BN.o 2).trans rfl
  have hn3 : w9.cell? ⟨gn, 3, none⟩ = some (.int .i64 x.f3) := (blk_cell BN.o 3).trans rfl
  have hn4 : w9.cell? ⟨gn, 4, none⟩ = some (.int .i64 x.f4) := (blk_cell BN.o 4).trans rfl
  have hq0 := (HB.o.cell (World.block_lt_of_cell? w0 _ hkc0)).trans hkc0; have hq1 := (HB.o.cell (World.block_lt_of_cell? w0 _ hkc1)).trans hkc1; have hz0 := hq0
  rw [show ad2.add 0 = ad2 by cases ad2; rfl] at hz0
  have HE0 := q_ he0; have HE1 := q_ he1; have hkb := hkc0; clear hkc0 he0 hkc1 he1; have hs_ := World.cell?_spot hz0
  rw [show ad2.add 1 = ⟨ad2.block, ad2.off + 1, none⟩ by (obtain ⟨b_, o_, s_⟩ := ad2; simp only at hs_; subst hs_; rfl)] at hq1
  go_wp2_with fail
  replace HM : J0 (Memo w0 gm gg (some ad) cn nodes tx E w9.drew) := ⟨Memo.below HM.o (below_drew1 (Below.refl _ _))⟩
  replace HB : J0 (Below w0.heap.size w0 w9.drew) := ⟨below_drew1 HB.o⟩
  replace HK : J0 (MK gg w w9.drew) := ⟨HK.o.trans (MK.below (below_drew1 (Below.refl _ _)))⟩
  replace BN := q_ (blk_drew BN.o)
  have HAD : J0 (ad2.block ≠ gg) := ⟨by have h1 := World.block_lt_of_cell? w0 _ hkb; have h2 := Memo.gg_ge HM.o; rw [add_block] at h1; omega⟩
  refine start_ (n := 16) (S := fun w' => w'.cell? ⟨gn, 2, none⟩ = some (.slice (some ad2) 2 c2) ∧ w'.cell? ad2 = some (.int .i64 (k0 : Int)) ∧ w'.cell? ⟨ad2.block, ad2.off + 1, none⟩ = some (.int .i64 (k1 : Int))) (ds := []) (bb 16 0) (by kernel_rfl) rfl rfl ⟨(blk_cell BN.o 2).trans rfl, hz0, hq1⟩ (fun hHeld => ?_)
  generalize hW1 : w9.drew = W1 at HM HB HK BN hHeld ⊢
  refine pk_ 0 85 1 ?_; refine pk_ 1 86 3 ?_; refine pk_ 5 90 35 ?_; refine pk_ 7 92 163 ?_; refine pk_ 8 93 419 ?_; refine pk_ 12 97 4515 ?_; refine tk_ 2 87 4519 hHeld ?_; refine pk_ 3 88 4527 ?_; refine tk_ 4 89 4543 hHeld ?_; refine tk_ 9 94 5055 hHeld ?_; refine pk_ 10 95 6079 ?_; refine tk_ 11 96 8127 hHeld ?_
  refine one_ (i := 6) (N := (some 91)) (bb 16 8191) rfl rfl (by kernel_rfl) (by decide) (fun K hK => ?_)
  refine goes_ Tryz.func113 (by kernel_rfl) rfl #[.pointer (some ⟨gm, 0, none⟩), .int .i64 (k0 : Int), .int .i64 0] (by rfl) rfl rfl (by (try simp only [List.map_toArray, List.map_cons, List.map_nil]); first | done | rfl) ?_
  refine (HE0.o _ HM.o HB.o).mono ?_
  rintro e w_ ⟨v_, rfl, hR_, hM_, hK_, hB_⟩
  refine ⟨_, rfl, ?_⟩; obtain ⟨HAg, HAc, rfl, HAh⟩ := Row.form hR_; have HA := q_ hR_; have nK := q_ (HK.o.trans hK_); clear HM HB HK hR_; have HM := q_ hM_; have HB := q_ hB_; have HK := nK; clear nK hM_ hB_
  refine hK.out _ _ ⟨MK.cell hK_ (hHeld.1) HGN.o, MK.cell hK_ (hHeld.2.1) (by have := HAD.o; first | exact this | (show ad2.block ≠ gg; exact this)), MK.cell hK_ (hHeld.2.2) (by have := HAD.o; first | exact this | (show ad2.block ≠ gg; exact this))⟩ (fun hHeld => ?_)
  clear hK_; clear hK K; refine no_ (some 91) ?_
  refine one_ (i := 13) (N := (some 98)) (bb 16 16383) rfl rfl (by kernel_rfl) (by decide) (fun K hK => ?_)
  refine goes_ Tryz.func113 (by kernel_rfl) rfl #[.pointer (some ⟨gm, 0, none⟩), .int .i64 (k1 : Int), .int .i64 0] (by rfl) rfl rfl (by (try simp only [List.map_toArray, List.map_cons, List.map_nil]); first | done | rfl) ?_
  refine (HE1.o _ HM.o HB.o).mono ?_
  rintro e w_ ⟨v_, rfl, hR_, hM_, hK_, hB_⟩
  refine ⟨_, rfl, ?_⟩; obtain ⟨HCg, HCc, rfl, HCh⟩ := Row.form hR_; have HC := q_ hR_; have nHA := q_ (Row.keep HA.o hK_); clear HA; have HA := nHA; clear nHA; have nK := q_ (HK.o.trans hK_); clear HM HB HK hR_; have HM := q_ hM_; have HB := q_ hB_; have HK := nK; clear nK hM_ hB_
  refine hK.out _ _ ⟨MK.cell hK_ (hHeld.1) HGN.o, MK.cell hK_ (hHeld.2.1) (by have := HAD.o; first | exact this | (show ad2.block ≠ gg; exact this)), MK.cell hK_ (hHeld.2.2) (by have := HAD.o; first | exact this | (show ad2.block ≠ gg; exact this))⟩ (fun hHeld => ?_)
  clear hK_; clear hK K; refine no_ (some 98) ?_
  refine one_ (i := 14) (N := (some 99)) (bb 16 32767) rfl rfl (by kernel_rfl) (by decide) (fun K hK => ?_)
  refine goes_ Tryz.func122 (by kernel_rfl) rfl #[.slice (some ⟨HAg, 0, none⟩) 1 HAc, .slice (some ⟨HCg, 0, none⟩) 1 HCc] (by rfl) rfl rfl (by (try simp only [List.map_toArray, List.map_cons, List.map_nil]); first | done | rfl) ?_
  obtain ⟨k_, hk_⟩ := or_one (E k0) (E k1)
  refine (spec_l4Or.calls k_ _ _ [(E k0)] _ _ [(E k1)] _ _ (Row.C HA.o) (Kd.R_reads' HA.o).2.1 (Row.C HC.o) (Kd.R_reads' HC.o).2.1 hk_).mono ?_
  rintro e w_ ⟨v_, rfl, ho, hb⟩
  have hR_ := Row.new ho HB.o (Memo.gg_lt HM.o); have hM_ := Memo.below HM.o hb; have hB_ := below_step HB.o hb; have hK_ := MK.below (gg := gg) hb; clear ho hb hk_; refine ⟨_, rfl, ?_⟩; obtain ⟨HOg, HOc, rfl, HOh⟩ := Row.form hR_; have HO := q_ hR_; have nK := q_ (HK.o.trans hK_); clear HM HB HK hR_; have HM := q_ hM_; have HB := q_ hB_; have HK := nK; clear nK hM_ hB_
  refine hK.out _ _ ⟨MK.cell hK_ (hHeld.1) HGN.o, MK.cell hK_ (hHeld.2.1) (by have := HAD.o; first | exact this | (show ad2.block ≠ gg; exact this)), MK.cell hK_ (hHeld.2.2) (by have := HAD.o; first | exact this | (show ad2.block ≠ gg; exact this))⟩ (fun hHeld => ?_)
  clear hK_; clear hK K; refine no_ (some 99) ?_; refine pk_ 15 6 65535 ?_
  refine done_ (by kernel_rfl) ?_
  go_wp2_with fail
  go_ret
  exact ⟨_, rfl, by rw [HE.o]; exact HO.o, HM.o, HK.o, HB.o⟩
theorem find_plus {w0 : World} {gm gg cn : Nat} {An : Option Addr} {nodes : List S121} {tx : ByteArray} {E : Nat → Bool} (ht : tx.size = 0) (hn : nodes.length ≤ 100000) (k : Nat) (hk1 : k < nodes.length) (hN : Kd.C k121 w0 An nodes.length nodes) (hop : (rd_T121 nodes (k : Int)).f0 = 6) (hlen : (rd_T121 nodes (k : Int)).f2.length = 1) (k0 : Nat) (e0 : rd (rd_T121 nodes (k : Int)).f2 0 = (k0 : Int)) (he0 : EOK w0 gm gg An cn nodes tx E k0) (hE : E k = E k0) : FOK w0 gm gg An cn nodes tx E k := by
  intro w hM hB
  obtain ⟨ad, A1, c1, A2, c2, rfl, hx0, hx1, hx2, hx3, hx4, _, _, hc2, hC2⟩ := at_T121 hN (k : Int) (by omega) (by omega)
  rw [Int.toNat_natCast] at hx0 hx1 hx2 hx3 hx4
  replace hx0 := (hB.cell (World.block_lt_of_cell? w0 _ hx0)).trans hx0; replace hx1 := (hB.cell (World.block_lt_of_cell? w0 _ hx1)).trans hx1; replace hx2 := (hB.cell (World.block_lt_of_cell? w0 _ hx2)).trans hx2; replace hx3 := (hB.cell (World.block_lt_of_cell? w0 _ hx3)).trans hx3; replace hx4 := (hB.cell (World.block_lt_of_cell? w0 _ hx4)).trans hx4
  obtain ⟨x, hxd⟩ : ∃ x, rd_T121 nodes (k : Int) = x := ⟨_, rfl⟩
  rw [hxd] at hx0 hx1 hx2 hx3 hx4 hc2 hC2 hop hlen e0
  rw [hop] at hx0
  clear hxd
  obtain ⟨ad2, rfl, hkc0⟩ := Kd.at_int hC2 0 (by omega) (by rw [hlen]; decide)
  rw [e0] at hkc0
  rw [show (0 : Int).toNat = 0 from rfl] at hkc0
  rw [hlen] at hx2
  clear hC2 hc2 hlen; obtain ⟨cg, hG, hcg, hgm⟩ := Memo.head hM
  have hm0 : w.cell? ⟨gm, 0, none⟩ = some (.slice (some ad) nodes.length cn) := (blk_cell hG 0).trans rfl
  have hm1 : w.cell? ⟨gm, 1, none⟩ = some (.string tx) := (blk_cell hG 1).trans rfl
  have ha1 : (w.alloc (.cells #[.int .i64 6, .slice A1 x.f1.length c1, .slice (some ad2) 1 c2, .int .i64 x.f3, .int .i64 x.f4] 121)).cell? ⟨gm, 1, none⟩ = some (.string tx) := (blk_cell (blk_alloc hG _) 1).trans rfl
  have hkz : (k : Int) < (nodes.length : Int) := by omega
  have hk0 : (0 : Int) ≤ (k : Int) := by omega
  obtain ⟨gn, hgn⟩ : ∃ gn, w.heap.size = gn := ⟨_, rfl⟩
  have HGN : J0 (gn ≠ gg) := ⟨by have := Memo.gg_lt hM; omega⟩
  have BN : J0 ((w.alloc (.cells #[.int .i64 6, .slice A1 x.f1.length c1, .slice (some ad2) 1 c2, .int .i64 x.f3, .int .i64 x.f4] 121)).heap[gn]? = some (.cells #[.int .i64 6, .slice A1 x.f1.length c1, .slice (some ad2) 1 c2, .int .i64 x.f3, .int .i64 x.f4] 121 (0, 0))) := ⟨by rw [← hgn]; exact blk_new w _⟩
  have HK := q_ (MK.below (gg := gg) (below_alloc (Below.refl w.heap.size w) (.cells #[.int .i64 6, .slice A1 x.f1.length c1, .slice (some ad2) 1 c2, .int .i64 x.f3, .int .i64 x.f4] 121))); have HB := q_ (below_alloc hB (.cells #[.int .i64 6, .slice A1 x.f1.length c1, .slice (some ad2) 1 c2, .int .i64 x.f3, .int .i64 x.f4] 121)); have HM := q_ (Memo.below hM (below_alloc (Below.refl w.heap.size w) (.cells #[.int .i64 6, .slice A1 x.f1.length c1, .slice (some ad2) 1 c2, .int .i64 x.f3, .int .i64 x.f4] 121))); have HE := q_ hE; clear hG hM hB hE
  go_enter Tryz.func117, Tryz.ntmps117
  go_upto_region 5 with (first | ((with_reducible refine gate_dst (N := 26) rfl ?_); refine Kd.R_make Kd.bool _ 4 rfl (N := 26) rfl 114 _ _ rfl (1 : Int) rfl rfl Tryz.underlying114 (.bool false) 1 info4 rfl (by decide) (by omega) false (ok := fun _ => True) (okp := fun _ => True) rfl (fun _ hk => hk) trivial (by omega) (by decide) (Below.refl _ _) (Nat.le_refl _) ?_; intro H8v w_ ho hb hg_ hnew_; clear hg_; replace ho : Kd.R Kd.bool 4 w_ _ (fun _ => True) H8v [false] := ho; have H8 := q_ (Row.new ho HB.o (Memo.gg_lt HM.o)); have nBN := q_ (blk_below BN.o hb); clear BN; have BN := nBN; clear nBN; have nM := q_ (Memo.below HM.o hb); have nB := q_ (below_step HB.o hb); have nK := q_ (HK.o.trans (MK.below hb)); clear HM HB HK ho hb hnew_; have HM := nM; have HB := nB; have HK := nK; clear nM nB nK; obtain ⟨cg_, hG_, _, _⟩ := Memo.head HM.o; have ha2 : w_.cell? ⟨gm, 1, none⟩ = some (.string tx) := (blk_cell hG_ 1).trans rfl; clear hG_) | ((with_reducible refine gate_dst (N := 33) rfl ?_); refine Kd.R_make Kd.bool _ 4 rfl (N := 33) rfl 114 _ _ rfl (1 : Int) rfl rfl Tryz.underlying114 (.bool false) 1 info4 rfl (by decide) (by omega) false (ok := fun _ => True) (okp := fun _ => True) rfl (fun _ hk => hk) trivial (by omega) (by decide) (Below.refl _ _) (Nat.le_refl _) ?_; intro H9v w_ ho hb hg_ hnew_; clear hg_; replace ho : Kd.R Kd.bool 4 w_ _ (fun _ => True) H9v [false] := ho; have H9 := q_ (Row.new ho HB.o (Memo.gg_lt HM.o)); have HX1 : ∃ W1 : World, Memo w0 gm gg (some ad) cn nodes tx E W1 ∧ Row w0 W1 gg H8v false ∧ W1.heap[gn]? = some (.cells #[.int .i64 6, .slice A1 x.f1.length c1, .slice (some ad2) 1 c2, .int .i64 x.f3, .int .i64 x.f4] 121 (0, 0)) ∧ Below W1.heap.size W1 w_ ∧ (∃ b_, H9v.ownBlock = some b_ ∧ W1.heap.size ≤ b_) ∧ Below w0.heap.size w0 W1 ∧ MK gg w W1 := ⟨_, HM.o, H8.o, BN.o, hb, hnew_, HB.o, HK.o⟩; have nH8 := q_ (Row.keep H8.o (MK.below hb)); clear H8; have H8 := nH8; clear nH8; have nBN := q_ (blk_below BN.o hb); clear BN; have BN := nBN; clear nBN; have nM := q_ (Memo.below HM.o hb); have nB := q_ (below_step HB.o hb); have nK := q_ (HK.o.trans (MK.below hb)); clear HM HB HK ho hb hnew_; have HM := nM; have HB := nB; have HK := nK; clear nM nB nK; obtain ⟨H9g, H9c, rfl, H9h⟩ := Row.form H9.o; have hx9 := Row.cell H9.o; have hf9 := Row.frozen H9.o))
  obtain ⟨W1, hM1, h81, hBN1, hb1, ⟨g9', e9, hg9⟩, hB1, hK1⟩ := HX1
  obtain rfl : H9g = g9' := by simpa [Value.ownBlock] using e9
  have Hbs := below_set hb1 hg9 (j := 0) (v := .bool true); have nH9 := q_ ((Kd.R_put H9.o 0 true).1); clear H8 H9 HM HB HK BN; have HM := q_ (Memo.below hM1 Hbs); have H8 := q_ (Row.keep h81 (MK.below (gg := gg) Hbs)); have HK := q_ (hK1.trans (MK.below (gg := gg) Hbs)); have HB := q_ (below_step hB1 Hbs); have BN := q_ (blk_below hBN1 Hbs)
  have H9 : J0 (Row w0 (w_.setCell ⟨H9g, 0, none⟩ (.bool true)) gg (.slice (some ⟨H9g, 0, none⟩) 1 H9c) true) := nH9
  clear nH9 Hbs hM1 h81 hBN1 hb1 hg9 e9 hB1 hK1 hx9 hf9
  generalize w_.setCell ⟨H9g, 0, none⟩ (.bool true) = w9 at *
  obtain ⟨H8g, H8c, rfl, hH8⟩ := Row.form H8.o; obtain ⟨cg_, hG_, _, _⟩ := Memo.head HM.o
  have ht1 : w9.cell? ⟨gm, 1, none⟩ = some (.string tx) := (blk_cell hG_ 1).trans rfl
  clear hG_
  have hn0 : w9.cell? ⟨gn, 0, none⟩ = some (.int .i64 6) := (blk_cell BN.o 0).trans rfl
  have hn2 : w9.cell? ⟨gn, 2, none⟩ = some (.slice (some ad2) 1 c2) := (blk_cell BN.o 2).trans rfl
  have hn3 : w9.cell? ⟨gn, 3, none⟩ = some (.int .i64 x.f3) := (blk_cell BN.o 3).trans rfl
  have hn4 : w9.cell? ⟨gn, 4, none⟩ = some (.int .i64 x.f4) := (blk_cell BN.o 4).trans rfl
  have hq0 := (HB.o.cell (World.block_lt_of_cell? w0 _ hkc0)).trans hkc0; have hz0 := hq0
  rw [show ad2.add 0 = ad2 by cases ad2; rfl] at hz0
  have HE0 := q_ he0; have hkb := hkc0; clear hkc0 he0
  go_wp2_with fail
  replace HM : J0 (Memo w0 gm gg (some ad) cn nodes tx E w9.drew) := ⟨Memo.below HM.o (below_drew1 (Below.refl _ _))⟩
  replace HB : J0 (Below w0.heap.size w0 w9.drew) := ⟨below_drew1 HB.o⟩
  replace HK : J0 (MK gg w w9.drew) := ⟨HK.o.trans (MK.below (below_drew1 (Below.refl _ _)))⟩
  replace BN := q_ (blk_drew BN.o)
  have HAD : J0 (ad2.block ≠ gg) := ⟨by have h1 := World.block_lt_of_cell? w0 _ hkb; have h2 := Memo.gg_ge HM.o; rw [add_block] at h1; omega⟩
  refine start_ (n := 14) (S := fun w' => w'.cell? ⟨gn, 2, none⟩ = some (.slice (some ad2) 1 c2) ∧ w'.cell? ad2 = some (.int .i64 (k0 : Int))) (ds := []) (bb 14 0) (by kernel_rfl) rfl rfl ⟨(blk_cell BN.o 2).trans rfl, hz0⟩ (fun hHeld => ?_)
  generalize hW1 : w9.drew = W1 at HM HB HK BN hHeld ⊢
  refine pk_ 0 111 1 ?_; refine pk_ 1 112 3 ?_; refine pk_ 5 116 35 ?_; refine pk_ 6 117 99 ?_; refine pk_ 10 121 1123 ?_; refine tk_ 2 113 1127 hHeld ?_; refine pk_ 3 114 1135 ?_; refine tk_ 4 115 1151 hHeld ?_; refine tk_ 7 118 1279 hHeld ?_; refine pk_ 8 119 1535 ?_; refine tk_ 9 120 2047 hHeld ?_
  refine one_ (i := 11) (N := (some 122)) (bb 14 4095) rfl rfl (by kernel_rfl) (by decide) (fun K hK => ?_)
  refine goes_ Tryz.func113 (by kernel_rfl) rfl #[.pointer (some ⟨gm, 0, none⟩), .int .i64 (k0 : Int), .int .i64 0] (by rfl) rfl rfl (by (try simp only [List.map_toArray, List.map_cons, List.map_nil]); first | done | rfl) ?_
  refine (HE0.o _ HM.o HB.o).mono ?_
  rintro e w_ ⟨v_, rfl, hR_, hM_, hK_, hB_⟩
  refine ⟨_, rfl, ?_⟩; obtain ⟨HAg, HAc, rfl, HAh⟩ := Row.form hR_; have HA := q_ hR_; have nK := q_ (HK.o.trans hK_); clear HM HB HK hR_; have HM := q_ hM_; have HB := q_ hB_; have HK := nK; clear nK hM_ hB_
  refine hK.out _ _ ⟨MK.cell hK_ (hHeld.1) HGN.o, MK.cell hK_ (hHeld.2) (by have := HAD.o; first | exact this | (show ad2.block ≠ gg; exact this))⟩ (fun hHeld => ?_)
  clear hK_; clear hK K; refine no_ (some 122) ?_
  refine one_ (i := 12) (N := (some 123)) (bb 14 8191) rfl rfl (by kernel_rfl) (by decide) (fun K hK => ?_)
  refine goes_ Tryz.func123 (by kernel_rfl) rfl #[.pointer (some ⟨gm, 0, none⟩), .int .i64 (k0 : Int), .slice (some ⟨HAg, 0, none⟩) 1 HAc] (by rfl) rfl rfl (by (try simp only [List.map_toArray, List.map_cons, List.map_nil]); first | done | rfl) ?_
  refine (again_of k0 HE0.o _ (E k0) _ HM.o HB.o HA.o).mono ?_
  rintro e w_ ⟨v_, rfl, hR_, hM_, hK_, hB_⟩
  refine ⟨_, rfl, ?_⟩; obtain ⟨HOg, HOc, rfl, HOh⟩ := Row.form hR_; have HO := q_ hR_; have nK := q_ (HK.o.trans hK_); clear HM HB HK hR_; have HM := q_ hM_; have HB := q_ hB_; have HK := nK; clear nK hM_ hB_
  refine hK.out _ _ ⟨MK.cell hK_ (hHeld.1) HGN.o, MK.cell hK_ (hHeld.2) (by have := HAD.o; first | exact this | (show ad2.block ≠ gg; exact this))⟩ (fun hHeld => ?_)
  clear hK_; clear hK K; refine no_ (some 123) ?_; refine pk_ 13 6 16383 ?_
  refine done_ (by kernel_rfl) ?_
  go_wp2_with fail
  go_ret
  exact ⟨_, rfl, by rw [HE.o]; exact HO.o, HM.o, HK.o, HB.o⟩
theorem find_times {w0 : World} {gm gg cn : Nat} {An : Option Addr} {nodes : List S121} {tx : ByteArray} {E : Nat → Bool} (ht : tx.size = 0) (hn : nodes.length ≤ 100000) (k : Nat) (hk1 : k < nodes.length) (hN : Kd.C k121 w0 An nodes.length nodes) (hop : (rd_T121 nodes (k : Int)).f0 = 8) (hlen : (rd_T121 nodes (k : Int)).f2.length = 1) (k0 : Nat) (e0 : rd (rd_T121 nodes (k : Int)).f2 0 = (k0 : Int)) (he0 : EOK w0 gm gg An cn nodes tx E k0) (hmi : 0 ≤ (rd_T121 nodes (k : Int)).f3 ∧ (rd_T121 nodes (k : Int)).f3 ≤ 1000) (hma : (rd_T121 nodes (k : Int)).f4 ≤ 1000) (hE : E k = (decide ((rd_T121 nodes (k : Int)).f3 = 0) || E k0)) : FOK w0 gm gg An cn nodes tx E k := by
  intro w hM hB
  obtain ⟨ad, A1, c1, A2, c2, rfl, hx0, hx1, hx2, hx3, hx4, _, _, hc2, hC2⟩ := at_T121 hN (k : Int) (by omega) (by omega)
  rw [Int.toNat_natCast] at hx0 hx1 hx2 hx3 hx4
  replace hx0 := (hB.cell (World.block_lt_of_cell? w0 _ hx0)).trans hx0; replace hx1 := (hB.cell (World.block_lt_of_cell? w0 _ hx1)).trans hx1; replace hx2 := (hB.cell (World.block_lt_of_cell? w0 _ hx2)).trans hx2; replace hx3 := (hB.cell (World.block_lt_of_cell? w0 _ hx3)).trans hx3; replace hx4 := (hB.cell (World.block_lt_of_cell? w0 _ hx4)).trans hx4
  obtain ⟨x, hxd⟩ : ∃ x, rd_T121 nodes (k : Int) = x := ⟨_, rfl⟩
  rw [hxd] at hx0 hx1 hx2 hx3 hx4 hc2 hC2 hop hlen e0 hmi hma hE
  rw [hop] at hx0
  clear hxd
  obtain ⟨ad2, rfl, hkc0⟩ := Kd.at_int hC2 0 (by omega) (by rw [hlen]; decide)
  rw [e0] at hkc0
  rw [show (0 : Int).toNat = 0 from rfl] at hkc0
  rw [hlen] at hx2
  clear hC2 hc2 hlen; obtain ⟨cg, hG, hcg, hgm⟩ := Memo.head hM
  have hm0 : w.cell? ⟨gm, 0, none⟩ = some (.slice (some ad) nodes.length cn) := (blk_cell hG 0).trans rfl
  have hm1 : w.cell? ⟨gm, 1, none⟩ = some (.string tx) := (blk_cell hG 1).trans rfl
  have ha1 : (w.alloc (.cells #[.int .i64 8, .slice A1 x.f1.length c1, .slice (some ad2) 1 c2, .int .i64 x.f3, .int .i64 x.f4] 121)).cell? ⟨gm, 1, none⟩ = some (.string tx) := (blk_cell (blk_alloc hG _) 1).trans rfl
  have hkz : (k : Int) < (nodes.length : Int) := by omega
  have hk0 : (0 : Int) ≤ (k : Int) := by omega
  obtain ⟨gn, hgn⟩ : ∃ gn, w.heap.size = gn := ⟨_, rfl⟩
  have HGN : J0 (gn ≠ gg) := ⟨by have := Memo.gg_lt hM; omega⟩
  have BN : J0 ((w.alloc (.cells #[.int .i64 8, .slice A1 x.f1.length c1, .slice (some ad2) 1 c2, .int .i64 x.f3, .int .i64 x.f4] 121)).heap[gn]? = some (.cells #[.int .i64 8, .slice A1 x.f1.length c1, .slice (some ad2) 1 c2, .int .i64 x.f3, .int .i64 x.f4] 121 (0, 0))) := ⟨by rw [← hgn]; exact blk_new w _⟩
  have HK := q_ (MK.below (gg := gg) (below_alloc (Below.refl w.heap.size w) (.cells #[.int .i64 8, .slice A1 x.f1.length c1, .slice (some ad2) 1 c2, .int .i64 x.f3, .int .i64 x.f4] 121))); have HB := q_ (below_alloc hB (.cells #[.int .i64 8, .slice A1 x.f1.length c1, .slice (some ad2) 1 c2, .int .i64 x.f3, .int .i64 x.f4] 121)); have HM := q_ (Memo.below hM (below_alloc (Below.refl w.heap.size w) (.cells #[.int .i64 8, .slice A1 x.f1.length c1, .slice (some ad2) 1 c2, .int .i64 x.f3, .int .i64 x.f4] 121))); have HE := q_ hE; clear hG hM hB hE
  go_enter Tryz.func117, Tryz.ntmps117
  go_upto_region 5 with (first | ((with_reducible refine gate_dst (N := 26) rfl ?_); refine Kd.R_make Kd.bool _ 4 rfl (N := 26) rfl 114 _ _ rfl (1 : Int) rfl rfl Tryz.underlying114 (.bool false) 1 info4 rfl (by decide) (by omega) false (ok := fun _ => True) (okp := fun _ => True) rfl (fun _ hk => hk) trivial (by omega) (by decide) (Below.refl _ _) (Nat.le_refl _) ?_; intro H8v w_ ho hb hg_ hnew_; clear hg_; replace ho : Kd.R Kd.bool 4 w_ _ (fun _ => True) H8v [false] := ho; have H8 := q_ (Row.new ho HB.o (Memo.gg_lt HM.o)); have nBN := q_ (blk_below BN.o hb); clear BN; have BN := nBN; clear nBN; have nM := q_ (Memo.below HM.o hb); have nB := q_ (below_step HB.o hb); have nK := q_ (HK.o.trans (MK.below hb)); clear HM HB HK ho hb hnew_; have HM := nM; have HB := nB; have HK := nK; clear nM nB nK; obtain ⟨cg_, hG_, _, _⟩ := Memo.head HM.o; have ha2 : w_.cell? ⟨gm, 1, none⟩ = some (.string tx) := (blk_cell hG_ 1).trans rfl; clear hG_) | ((with_reducible refine gate_dst (N := 33) rfl ?_); refine Kd.R_make Kd.bool _ 4 rfl (N := 33) rfl 114 _ _ rfl (1 : Int) rfl rfl Tryz.underlying114 (.bool false) 1 info4 rfl (by decide) (by omega) false (ok := fun _ => True) (okp := fun _ => True) rfl (fun _ hk => hk) trivial (by omega) (by decide) (Below.refl _ _) (Nat.le_refl _) ?_; intro H9v w_ ho hb hg_ hnew_; clear hg_; replace ho : Kd.R Kd.bool 4 w_ _ (fun _ => True) H9v [false] := ho; have H9 := q_ (Row.new ho HB.o (Memo.gg_lt HM.o)); have HX1 : ∃ W1 : World, Memo w0 gm gg (some ad) cn nodes tx E W1 ∧ Row w0 W1 gg H8v false ∧ W1.heap[gn]? = some (.cells #[.int .i64 8, .slice A1 x.f1.length c1, .slice (some ad2) 1 c2, .int .i64 x.f3, .int .i64 x.f4] 121 (0, 0)) ∧ Below W1.heap.size W1 w_ ∧ (∃ b_, H9v.ownBlock = some b_ ∧ W1.heap.size ≤ b_) ∧ Below w0.heap.size w0 W1 ∧ MK gg w W1 := ⟨_, HM.o, H8.o, BN.o, hb, hnew_, HB.o, HK.o⟩; have nH8 := q_ (Row.keep H8.o (MK.below hb)); clear H8; have H8 := nH8; clear nH8; have nBN := q_ (blk_below BN.o hb); clear BN; have BN := nBN; clear nBN; have nM := q_ (Memo.below HM.o hb); have nB := q_ (below_step HB.o hb); have nK := q_ (HK.o.trans (MK.below hb)); clear HM HB HK ho hb hnew_; have HM := nM; have HB := nB; have HK := nK; clear nM nB nK; obtain ⟨H9g, H9c, rfl, H9h⟩ := Row.form H9.o; have hx9 := Row.cell H9.o; have hf9 := Row.frozen H9.o))
  obtain ⟨W1, hM1, h81, hBN1, hb1, ⟨g9', e9, hg9⟩, hB1, hK1⟩ := HX1
  obtain rfl : H9g = g9' := by simpa [Value.ownBlock] using e9
  have Hbs := below_set hb1 hg9 (j := 0) (v := .bool true); have nH9 := q_ ((Kd.R_put H9.o 0 true).1); clear H8 H9 HM HB HK BN; have HM := q_ (Memo.below hM1 Hbs); have H8 := q_ (Row.keep h81 (MK.below (gg := gg) Hbs)); have HK := q_ (hK1.trans (MK.below (gg := gg) Hbs)); have HB := q_ (below_step hB1 Hbs); have BN := q_ (blk_below hBN1 Hbs)
  have H9 : J0 (Row w0 (w_.setCell ⟨H9g, 0, none⟩ (.bool true)) gg (.slice (some ⟨H9g, 0, none⟩) 1 H9c) true) := nH9
  clear nH9 Hbs hM1 h81 hBN1 hb1 hg9 e9 hB1 hK1 hx9 hf9
  generalize w_.setCell ⟨H9g, 0, none⟩ (.bool true) = w9 at *
  obtain ⟨H8g, H8c, rfl, hH8⟩ := Row.form H8.o; obtain ⟨cg_, hG_, _, _⟩ := Memo.head HM.o
  have ht1 : w9.cell? ⟨gm, 1, none⟩ = some (.string tx) := (blk_cell hG_ 1).trans rfl
  clear hG_
  have hn0 : w9.cell? ⟨gn, 0, none⟩ = some (.int .i64 8) := (blk_cell BN.o 0).trans rfl
  have hn2 : w9.cell? ⟨gn, 2, none⟩ = some (.slice (some ad2) 1 c2) := (blk_cell BN.o 2).trans rfl
  have hn3 : w9.cell? ⟨gn, 3, none⟩ = some (.int .i64 x.f3) := (blk_cell BN.o 3).trans rfl
  have hn4 : w9.cell? ⟨gn, 4, none⟩ = some (.int .i64 x.f4) := (blk_cell BN.o 4).trans rfl
  have hq0 := (HB.o.cell (World.block_lt_of_cell? w0 _ hkc0)).trans hkc0; have hz0 := hq0
  rw [show ad2.add 0 = ad2 by cases ad2; rfl] at hz0
  have HE0 := q_ he0; have hkb := hkc0; clear hkc0 he0
  have HAD : J0 (ad2.block ≠ gg) := ⟨by have h1 := World.block_lt_of_cell? w0 _ hkb; have h2 := Memo.gg_ge HM.o; rw [add_block] at h1; omega⟩
  have HZ := q_ hz0; clear hkb hz0 hq0 hn2 hn3 hn4 ht1
  obtain ⟨cc, hcc⟩ : ∃ cc, (decide (x.f3 = 0) || E k0) = cc := ⟨_, rfl⟩
  have HCC := q_ hcc
  rw [hcc] at HE
  clear hcc
  go_wp2_with fail
  go_loopg [9, 10] (x.f3.toNat + 1) (fun gk_ v9 v10 wr => ∃ (kk : Nat), v10 = .int .i64 (kk : Int) ∧ (kk : Int) ≤ x.f3 ∧ x.f3.toNat - kk < gk_ ∧ J0 (Row w0 wr gg v9 (decide (kk = 0) || E k0)) ∧ J0 (Row w0 wr gg (.slice (some ⟨H8g, 0, none⟩) 1 H8c) false) ∧ J0 (Memo w0 gm gg (some ad) cn nodes tx E wr) ∧ J0 (Below w0.heap.size w0 wr) ∧ J0 (MK gg w wr) ∧ J0 (wr.heap[gn]? = some (.cells #[.int .i64 8, .slice A1 x.f1.length c1, .slice (some ad2) 1 c2, .int .i64 x.f3, .int .i64 x.f4] 121 (0, 0))) ∧ J0 (wr.cell? ad2 = some (.int .i64 (k0 : Int))))
  case atStart => exact ⟨0, rfl, by omega, by omega, ⟨by simpa using H9.o⟩, H8, HM, HB, HK, BN, HZ⟩
  case round =>
    clear H9 H8 HM HB HK BN HZ; obtain ⟨kk, rfl, hkk, hgk, H9, H8, HM, HB, HK, BN, HZ⟩ := hrel; obtain ⟨g9, c9, rfl, hc9⟩ := Row.form H9.o
    have hn2 : wr.cell? ⟨gn, 2, none⟩ = some (.slice (some ad2) 1 c2) := (blk_cell BN.o 2).trans rfl
    have hn3 : wr.cell? ⟨gn, 3, none⟩ = some (.int .i64 x.f3) := (blk_cell BN.o 3).trans rfl
    have hn4 : wr.cell? ⟨gn, 4, none⟩ = some (.int .i64 x.f4) := (blk_cell BN.o 4).trans rfl
    have hz0 := HZ.o
    by_cases hlt : (kk : Int) < x.f3
    · have hd : decide ((kk : Int) < x.f3) = true := decide_eq_true hlt
      go_wp2_with (go_at_call 121; refine (step_of k0 HE0.o _ (decide (kk = 0) || E k0) _ HM.o HB.o H9.o).mono ?_; rintro e w_ ⟨v_, rfl, hR_, hM_, hK_, hB_⟩; have nH8 := q_ (Row.keep H8.o hK_); clear H8; have H8 := nH8; clear nH8; have HS := q_ hR_; obtain ⟨HSg, HSc, rfl, HSh⟩ := Row.form hR_; have nBN := q_ ((hK_.2 gn (blk_lt BN.o) HGN.o).trans BN.o); have nZ := q_ (MK.cell hK_ HZ.o HAD.o); have nK := q_ (HK.o.trans hK_); clear HM HB HK hR_ hK_ BN HZ; have HM := q_ hM_; have HB := q_ hB_; have HK := nK; have BN := nBN; have HZ := nZ; clear nK nBN nZ hM_ hB_)
      go_roundg (x.f3.toNat - kk)
      case measure => omega
      case rel => exact ⟨kk + 1, by go_num, by omega, by omega, ⟨by have h := HS.o; rw [show (decide (kk + 1 = 0) || E k0) = ((decide (kk = 0) || E k0) && E k0) by cases E k0 <;> simp]; exact h⟩, H8, HM, HB, HK, BN, HZ⟩
    · have hd : decide ((kk : Int) < x.f3) = false := decide_eq_false hlt
      have he : J0 ((decide (kk = 0) || E k0) = cc) := ⟨by rw [← HCC.o]; congr 2; rw [eq_iff_iff]; omega⟩
      replace H9 := q_ (he.o ▸ H9.o); clear he
      by_cases hmx : x.f4 < 0
      · have hd2 : decide (x.f4 < 0) = true := decide_eq_true hmx
        go_wp2_with (go_at_call 123; refine (again_of k0 HE0.o _ cc _ HM.o HB.o H9.o).mono ?_; rintro e w_ ⟨v_, rfl, hR_, hM_, hK_, hB_⟩; have HA := q_ hR_; obtain ⟨HAg, HAc, rfl, HAh⟩ := Row.form hR_; have nBN := q_ ((hK_.2 gn (blk_lt BN.o) HGN.o).trans BN.o); have nZ := q_ (MK.cell hK_ HZ.o HAD.o); have nK := q_ (HK.o.trans hK_); clear HM HB HK hR_ hK_ BN HZ; have HM := q_ hM_; have HB := q_ hB_; have HK := nK; have BN := nBN; have HZ := nZ; clear nK nBN nZ hM_ hB_)
        go_ret
        exact ⟨_, rfl, by rw [HE.o]; exact HA.o, HM.o, HK.o, HB.o⟩
      · have hd2 : decide (x.f4 < 0) = false := decide_eq_false hmx
        go_wp2_with (go_at_call 122; obtain ⟨k_, hk_⟩ := or_one false cc; refine (spec_l4Or.calls k_ _ _ [false] _ _ [cc] _ _ (Row.C H8.o) (Kd.R_reads' H8.o).2.1 (Row.C H9.o) (Kd.R_reads' H9.o).2.1 hk_).mono ?_; rintro e w_ ⟨HOv, rfl, ho, hb⟩; have HO := q_ (Row.new ho HB.o (Memo.gg_lt HM.o)); have nH9 := q_ (Row.keep H9.o (MK.below hb)); clear H9; have H9 := nH9; clear nH9; have nBN := q_ (blk_below BN.o hb); have nZ := q_ (MK.cell (MK.below (gg := gg) hb) HZ.o HAD.o); clear BN HZ; have BN := nBN; have HZ := nZ; clear nBN nZ; have nM := q_ (Memo.below HM.o hb); have nB := q_ (below_step HB.o hb); have nK := q_ (HK.o.trans (MK.below hb)); clear HM HB HK ho hb hk_; have HM := nM; have HB := nB; have HK := nK; clear nM nB nK; obtain ⟨HOg, HOc, rfl, HOh⟩ := Row.form HO.o; have hn2 : w_.cell? ⟨gn, 2, none⟩ = some (.slice (some ad2) 1 c2) := (blk_cell BN.o 2).trans rfl; have hn3 : w_.cell? ⟨gn, 3, none⟩ = some (.int .i64 x.f3) := (blk_cell BN.o 3).trans rfl; have hn4 : w_.cell? ⟨gn, 4, none⟩ = some (.int .i64 x.f4) := (blk_cell BN.o 4).trans rfl; have hz0 := HZ.o)
        replace HO := q_ (show Row w0 w_ gg (.slice (some ⟨HOg, 0, none⟩) 1 HOc) cc by have h := HO.o; simpa using h)
        go_loopg [8, 9, 11] ((x.f4 - x.f3).toNat + 1) (fun gk_ v8 v9 v11 wr => ∃ (j : Int) (bo : Bool), v11 = .int .i64 j ∧ x.f3 ≤ j ∧ j ≤ 1000 ∧ (x.f4 - j).toNat < gk_ ∧ J0 (bo = true → cc = true) ∧ J0 (Row w0 wr gg v8 cc) ∧ J0 (Row w0 wr gg v9 bo) ∧ J0 (Memo w0 gm gg (some ad) cn nodes tx E wr) ∧ J0 (Below w0.heap.size w0 wr) ∧ J0 (MK gg w wr) ∧ J0 (wr.heap[gn]? = some (.cells #[.int .i64 8, .slice A1 x.f1.length c1, .slice (some ad2) 1 c2, .int .i64 x.f3, .int .i64 x.f4] 121 (0, 0))) ∧ J0 (wr.cell? ad2 = some (.int .i64 (k0 : Int))))
        case atStart => exact ⟨x.f3, cc, rfl, by omega, by omega, by omega, ⟨fun h => h⟩, HO, H9, HM, HB, HK, BN, HZ⟩
        case round =>
          clear HO H9 HM HB HK BN HZ hn2 hn3 hn4 hz0 H8; obtain ⟨j, bo, rfl, hj0, hj1, hgk2, HI, H8, H9, HM, HB, HK, BN, HZ⟩ := hrel; obtain ⟨g8, c8, rfl, hc8⟩ := Row.form H8.o; obtain ⟨g7, c7, rfl, hc7⟩ := Row.form H9.o
          have hn2 : wr.cell? ⟨gn, 2, none⟩ = some (.slice (some ad2) 1 c2) := (blk_cell BN.o 2).trans rfl
          have hn3 : wr.cell? ⟨gn, 3, none⟩ = some (.int .i64 x.f3) := (blk_cell BN.o 3).trans rfl
          have hn4 : wr.cell? ⟨gn, 4, none⟩ = some (.int .i64 x.f4) := (blk_cell BN.o 4).trans rfl
          have hz0 := HZ.o
          by_cases hlt2 : j < x.f4
          · have hd3 : decide (j < x.f4) = true := decide_eq_true hlt2
            have hwr : IntKind.i64.wrap (j + 1) = j + 1 := by rw [i64_w]; exact wrap_id (by omega) (by omega)
            go_wp2_with (first | (go_at_call 121; refine (step_of k0 HE0.o _ bo _ HM.o HB.o H9.o).mono ?_; rintro e w_ ⟨v_, rfl, hR_, hM_, hK_, hB_⟩; have nH8 := q_ (Row.keep H8.o hK_); clear H8; have H8 := nH8; clear nH8; have HS := q_ hR_; obtain ⟨HSg, HSc, rfl, HSh⟩ := Row.form hR_; have nBN := q_ ((hK_.2 gn (blk_lt BN.o) HGN.o).trans BN.o); have nZ := q_ (MK.cell hK_ HZ.o HAD.o); have nK := q_ (HK.o.trans hK_); clear HM HB HK hR_ hK_ BN HZ; have HM := q_ hM_; have HB := q_ hB_; have HK := nK; have BN := nBN; have HZ := nZ; clear nK nBN nZ hM_ hB_) | (go_at_call 122; obtain ⟨k_, hk_⟩ := or_one cc (bo && E k0); refine (spec_l4Or.calls k_ _ _ [cc] _ _ [(bo && E k0)] _ _ (Row.C H8.o) (Kd.R_reads' H8.o).2.1 (Row.C HS.o) (Kd.R_reads' HS.o).2.1 hk_).mono ?_; rintro e w_ ⟨HO2v, rfl, ho, hb⟩; have HO2 := q_ (Row.new ho HB.o (Memo.gg_lt HM.o)); have nHS := q_ (Row.keep HS.o (MK.below hb)); clear HS; have HS := nHS; clear nHS; have nBN := q_ (blk_below BN.o hb); have nZ := q_ (MK.cell (MK.below (gg := gg) hb) HZ.o HAD.o); clear BN HZ; have BN := nBN; have HZ := nZ; clear nBN nZ; have nM := q_ (Memo.below HM.o hb); have nB := q_ (below_step HB.o hb); have nK := q_ (HK.o.trans (MK.below hb)); clear HM HB HK ho hb hk_; have HM := nM; have HB := nB; have HK := nK; clear nM nB nK; obtain ⟨HO2g, HO2c, rfl, HO2h⟩ := Row.form HO2.o))
            go_roundg ((x.f4 - j).toNat)
            case measure => omega
            case rel => exact ⟨j + 1, bo && E k0, by go_num, by omega, by omega, by omega, ⟨fun h => HI.o (by simp at h; exact h.1)⟩, ⟨by have h := HO2.o; rw [show (cc || (bo && E k0)) = cc by (have := HI.o; cases cc <;> cases bo <;> simp_all)] at h; exact h⟩, HS, HM, HB, HK, BN, HZ⟩
          · have hd3 : decide (j < x.f4) = false := decide_eq_false hlt2
            go_wp2_with fail
            go_ret
            exact ⟨_, rfl, by rw [HE.o]; exact H8.o, HM.o, HK.o, HB.o⟩
end Go.Proofs.YtijmhelacmjggaaGreat.P
namespace Go.Proofs.YtijmhelacmjggaaGreat.P
open Go.RowKit Go.Proofs.YtijmhelacmjggaaGreatW.PrintWords Go.Proofs.YtijmhelacmjggaaGreatW.PrintLast Go.Proofs.YtijmhelacmjggaaGreatW.PrintMore
attribute [local go_sem] max2_int min2_int max_two min_two max_three min_three max_four min_four
set_option linter.unusedVariables false
set_option linter.unusedSimpArgs false
/-! ### impl_within: function 56 -/
def impl_within.f (a0 : Int) (a1 : Int) (a2 : Int) : Option (Bool) := if a0 ≥ a1 then (some (decide (a0 ≤ a2))) else (some false)
theorem impl_within.calls (a0 : Int) (a1 : Int) (a2 : Int) (r : Bool) (w : World) (h : impl_within.f a0 a1 a2 = some r) :
  Calls Tryz.prog 56 #[.int .i64 a0, .int .i64 a1, .int .i64 a2] w fun e w' => e = .returned (.bool r) ∧ Drawn0 w w' := by
 have H : (if a0 ≥ a1 then (some (decide (a0 ≤ a2))) else (some false)) = some r := h
 clear h
 by_cases c4 : a0 ≥ a1
 ·rw [if_pos c4] at H
  have c4b0 : decide (a1 ≤ a0) = true := dt_ c4
  clear c4; obtain rfl := Option.some.inj H
  go_enter Tryz.func56, Tryz.ntmps56
  go_wp2
  go_ret
  exact ⟨by first | rfl | (simp; done) | (simp [*]; done), by repeat (first | exact Drawn0.refl _ | apply Drawn0.step)⟩
 ·rw [if_neg c4] at H
  have c4b0 : decide (a1 ≤ a0) = false := df_ c4
  clear c4; obtain rfl := Option.some.inj H
  go_enter Tryz.func56, Tryz.ntmps56
  go_wp2
  go_ret
  exact ⟨by first | rfl | (simp; done) | (simp [*]; done), by repeat (first | exact Drawn0.refl _ | apply Drawn0.step)⟩
/-! ### spec_l1In: function 51 -/
def spec_l1In.f (a0 : Int) (a1 : Int) (a2 : Int) : Option (Bool) := if a0 ≥ a1 then (some (decide (a0 ≤ a2))) else (some false)
theorem spec_l1In.calls (a0 : Int) (a1 : Int) (a2 : Int) (r : Bool) (w : World) (h : spec_l1In.f a0 a1 a2 = some r) :
  Calls Tryz.prog 51 #[.int .i64 a0, .int .i64 a1, .int .i64 a2] w fun e w' => e = .returned (.bool r) ∧ Drawn0 w w' := by
 have H : (if a0 ≥ a1 then (some (decide (a0 ≤ a2))) else (some false)) = some r := h
 clear h
 by_cases c4 : a0 ≥ a1
 ·rw [if_pos c4] at H
  have c4b0 : decide (a1 ≤ a0) = true := dt_ c4
  clear c4; obtain rfl := Option.some.inj H
  go_enter Tryz.func51, Tryz.ntmps51
  go_wp2
  go_ret
  exact ⟨by first | rfl | (simp; done) | (simp [*]; done), by repeat (first | exact Drawn0.refl _ | apply Drawn0.step)⟩
 ·rw [if_neg c4] at H
  have c4b0 : decide (a1 ≤ a0) = false := df_ c4
  clear c4; obtain rfl := Option.some.inj H
  go_enter Tryz.func51, Tryz.ntmps51
  go_wp2
  go_ret
  exact ⟨by first | rfl | (simp; done) | (simp [*]; done), by repeat (first | exact Drawn0.refl _ | apply Drawn0.step)⟩
end Go.Proofs.YtijmhelacmjggaaGreat.P
namespace Go.Proofs.YtijmhelacmjggaaGreat.P
open Go.RowKit Go.Proofs.YtijmhelacmjggaaGreatW.PrintWords Go.Proofs.YtijmhelacmjggaaGreatW.PrintLast Go.Proofs.YtijmhelacmjggaaGreatEv
set_option linter.unusedVariables false
set_option linter.unusedSimpArgs false
theorem spec_l1In_eq (a b c : Int) : spec_l1In.f a b c = some (decide (b ≤ a ∧ a ≤ c)) := by
  unfold spec_l1In.f
  by_cases h : a ≥ b <;> simp [h]
theorem impl_within_eq (a b c : Int) : impl_within.f a b c = some (decide (b ≤ a ∧ a ≤ c)) := by
  unfold impl_within.f
  by_cases h : a ≥ b <;> simp [h]
end Go.Proofs.YtijmhelacmjggaaGreat.P
namespace Go.Proofs.YtijmhelacmjggaaGreat.P
open Go.RowKit Go.Proofs.YtijmhelacmjggaaGreatW.PrintWords Go.Proofs.YtijmhelacmjggaaGreatW.PrintLast Go.Proofs.YtijmhelacmjggaaGreatW.PrintMore
attribute [local go_sem] max2_int min2_int max_two min_two max_three min_three max_four min_four
set_option linter.unusedVariables false
set_option linter.unusedSimpArgs false
/-! ### impl_kidsOf: function 101 -/
mutual
def impl_kidsOf.j0 : Nat → Int → Bool → Option (Int)
 | 0, _, _ => none
 | k + 1, x3, x4 => if x4 = true then (some 0) else (if x3 = 3 then (impl_kidsOf.j1 k x3 (x3 == 3)) else (impl_kidsOf.j1 k x3 (x3 == 4)))
def impl_kidsOf.j1 : Nat → Int → Bool → Option (Int)
 | 0, _, _ => none
 | k + 1, x3, x7 => if x7 = true then (some 2) else (if x3 = 5 then (some 1) else (if x3 = 6 then (some 1) else (if x3 = 7 then (some 1) else (if x3 = 8 then (some 1) else (some (-1))))))
end
def impl_kidsOf.f (k : Nat) (a0 : Int) : Option (Int) := if a0 = 1 then (impl_kidsOf.j0 k a0 (a0 == 1)) else (impl_kidsOf.j0 k a0 (a0 == 2))
theorem impl_kidsOf.calls (k : Nat) (a0 : Int) (r : Int) (w : World) (h : impl_kidsOf.f k a0 = some r) :
  Calls Tryz.prog 101 #[.int .i64 a0] w fun e w' => e = .returned (.int .i64 r) ∧ Drawn0 w w' := by
 have H : (if a0 = 1 then (impl_kidsOf.j0 k a0 (a0 == 1)) else (impl_kidsOf.j0 k a0 (a0 == 2))) = some r := h
 clear h; have HC2 := q_ H; clear H
 go_enter Tryz.func101, Tryz.ntmps101
 go_upto_if 4 with (fail)
 go_cut [4] (fun v4 wc => ∃ (kq : Nat) (x4_1 : Bool), v4 = .bool x4_1 ∧ J0 (impl_kidsOf.j0 kq a0 x4_1 = some r) ∧ J0 (kq ≤ k) ∧ Drawn0 w wc)
 case first =>
  have H := HC2.o; clear HC2
  by_cases c3 : a0 = 1
  ·rw [if_pos c3] at H
   have c3b0 : (a0 == 1) = true := beq_iff_eq.mpr c3
   have c3b1 : (a0 != 1) = false := bne_eq_false_iff_eq.mpr c3
   clear c3
   (first | rw [c3b0] | (simp only [i64_w, i32_w]; rw [c3b0]) | skip)
   have H' := q_ H
   clear H
   go_wp2
   go_meet
   case rel => exact ⟨_, ((a0 == 1)), rs_, H', ⟨by first | omega | exact Nat.le_refl _⟩, by repeat (first | exact Drawn0.refl _ | apply Drawn0.step)⟩
  ·rw [if_neg c3] at H
   have c3b0 : (a0 == 1) = false := beq_eq_false_iff_ne.mpr c3
   have c3b1 : (a0 != 1) = true := bne_iff_ne.mpr c3
   (first | rw [c3b0] | (simp only [i64_w, i32_w]; rw [c3b0]) | skip)
   have H' := q_ H
   clear H
   go_wp2
   go_meet
   case rel => exact ⟨_, ((a0 == 2)), rs_, H', ⟨by first | omega | exact Nat.le_refl _⟩, by repeat (first | exact Drawn0.refl _ | apply Drawn0.step)⟩
 case rest =>
  clear HC2; (try clear c3); (try clear c3b0); (try clear c3b1)
  obtain ⟨kq, x4_1, rfl, HA, HJ1, ⟨mc1, rfl⟩⟩ := hcut
  cases kq with
  | zero => exact absurd HA.o (by simp [impl_kidsOf.j0])
  | succ kj1 =>
   have H := HA.o; clear HA
   simp only [impl_kidsOf.j0] at H
   by_cases c4 : x4_1 = true
   ·subst c4; rw [if_pos rfl] at H; obtain rfl := Option.some.inj H
    go_wp2
    go_ret
    exact ⟨by first | rfl | (simp; done) | (simp [*]; done), by repeat (first | exact Drawn0.refl _ | apply Drawn0.step)⟩
   ·replace c4 := Bool.eq_false_iff.mpr c4; subst c4; rw [if_neg nft_] at H; have HC5 := q_ H; clear H
    go_upto_if 7 with (fail)
    go_cut [7] (fun v7 wc => ∃ (kq : Nat) (x7_4 : Bool), v7 = .bool x7_4 ∧ J0 (impl_kidsOf.j1 kq a0 x7_4 = some r) ∧ J0 (kq ≤ kj1) ∧ Drawn0 w wc)
    case first =>
     have H := HC5.o; clear HC5
     by_cases c6 : a0 = 3
     ·rw [if_pos c6] at H
      have c6b0 : (a0 == 3) = true := beq_iff_eq.mpr c6
      have c6b1 : (a0 != 3) = false := bne_eq_false_iff_eq.mpr c6
      clear c6
      (first | rw [c6b0] | (simp only [i64_w, i32_w]; rw [c6b0]) | skip)
      have H' := q_ H
      clear H
      go_wp2
      go_meet
      case rel => exact ⟨_, ((a0 == 3)), rs_, H', ⟨by have := HJ1.o; first | omega | exact Nat.le_refl _⟩, by repeat (first | exact Drawn0.refl _ | apply Drawn0.step)⟩
     ·rw [if_neg c6] at H
      have c6b0 : (a0 == 3) = false := beq_eq_false_iff_ne.mpr c6
      have c6b1 : (a0 != 3) = true := bne_iff_ne.mpr c6
      (first | rw [c6b0] | (simp only [i64_w, i32_w]; rw [c6b0]) | skip)
      have H' := q_ H
      clear H
      go_wp2
      go_meet
      case rel => exact ⟨_, ((a0 == 4)), rs_, H', ⟨by have := HJ1.o; first | omega | exact Nat.le_refl _⟩, by repeat (first | exact Drawn0.refl _ | apply Drawn0.step)⟩
    case rest =>
     clear HC5; (try clear c3); (try clear c3b0); (try clear c3b1); (try clear c4); (try clear c6); (try clear c6b0); (try clear c6b1)
     obtain ⟨kq, x7_4, rfl, HA, HJ4, ⟨mc4, rfl⟩⟩ := hcut
     cases kq with
     | zero => exact absurd HA.o (by simp [impl_kidsOf.j1])
     | succ kj4 =>
      have H := HA.o; clear HA
      simp only [impl_kidsOf.j1] at H
      by_cases c7 : x7_4 = true
      ·subst c7; rw [if_pos rfl] at H; obtain rfl := Option.some.inj H
       go_wp2
       go_ret
       exact ⟨by first | rfl | (simp; done) | (simp [*]; done), by repeat (first | exact Drawn0.refl _ | apply Drawn0.step)⟩
      ·replace c7 := Bool.eq_false_iff.mpr c7; subst c7; rw [if_neg nft_] at H
       by_cases c8 : a0 = 5
       ·rw [if_pos c8] at H
        have c8b0 : (a0 == 5) = true := beq_iff_eq.mpr c8
        have c8b1 : (a0 != 5) = false := bne_eq_false_iff_eq.mpr c8
        clear c8; obtain rfl := Option.some.inj H
        go_wp2
        go_ret
        exact ⟨by first | rfl | (simp; done) | (simp [*]; done), by repeat (first | exact Drawn0.refl _ | apply Drawn0.step)⟩
       ·rw [if_neg c8] at H
        have c8b0 : (a0 == 5) = false := beq_eq_false_iff_ne.mpr c8
        have c8b1 : (a0 != 5) = true := bne_iff_ne.mpr c8
        by_cases c9 : a0 = 6
        ·rw [if_pos c9] at H
         have c9b0 : (a0 == 6) = true := beq_iff_eq.mpr c9
         have c9b1 : (a0 != 6) = false := bne_eq_false_iff_eq.mpr c9
         clear c9; obtain rfl := Option.some.inj H
         go_wp2
         go_ret
         exact ⟨by first | rfl | (simp; done) | (simp [*]; done), by repeat (first | exact Drawn0.refl _ | apply Drawn0.step)⟩
        ·rw [if_neg c9] at H
         have c9b0 : (a0 == 6) = false := beq_eq_false_iff_ne.mpr c9
         have c9b1 : (a0 != 6) = true := bne_iff_ne.mpr c9
         by_cases c10 : a0 = 7
         ·rw [if_pos c10] at H
          have c10b0 : (a0 == 7) = true := beq_iff_eq.mpr c10
          have c10b1 : (a0 != 7) = false := bne_eq_false_iff_eq.mpr c10
          clear c10; obtain rfl := Option.some.inj H
          go_wp2
          go_ret
          exact ⟨by first | rfl | (simp; done) | (simp [*]; done), by repeat (first | exact Drawn0.refl _ | apply Drawn0.step)⟩
         ·rw [if_neg c10] at H
          have c10b0 : (a0 == 7) = false := beq_eq_false_iff_ne.mpr c10
          have c10b1 : (a0 != 7) = true := bne_iff_ne.mpr c10
          by_cases c11 : a0 = 8
          ·rw [if_pos c11] at H
           have c11b0 : (a0 == 8) = true := beq_iff_eq.mpr c11
           have c11b1 : (a0 != 8) = false := bne_eq_false_iff_eq.mpr c11
           clear c11; obtain rfl := Option.some.inj H
           go_wp2
           go_ret
           exact ⟨by first | rfl | (simp; done) | (simp [*]; done), by repeat (first | exact Drawn0.refl _ | apply Drawn0.step)⟩
          ·rw [if_neg c11] at H
           have c11b0 : (a0 == 8) = false := beq_eq_false_iff_ne.mpr c11
           have c11b1 : (a0 != 8) = true := bne_iff_ne.mpr c11
           obtain rfl := Option.some.inj H
           go_wp2
           go_ret
           exact ⟨by first | rfl | (simp; done) | (simp [*]; done), by repeat (first | exact Drawn0.refl _ | apply Drawn0.step)⟩
/-! ### impl_timesOk: function 104 -/
def impl_timesOk.f (a0 : Int) (a1 : Int) : Option (Bool) := (impl_within.f a0 0 30).bind fun t101 => (if t101 = true then (if a1 = (-1) then (some true) else ((impl_within.f a1 a0 30).bind fun t102 => (if t102 = true then (some (a1 != 0)) else (some false)))) else (some false))
theorem impl_timesOk.calls (a0 : Int) (a1 : Int) (r : Bool) (w : World) (h : impl_timesOk.f a0 a1 = some r) :
  Calls Tryz.prog 104 #[.int .i64 a0, .int .i64 a1] w fun e w' => e = .returned (.bool r) ∧ Drawn0 w w' := by
 have H : ((impl_within.f a0 0 30).bind fun t101 => (if t101 = true then (if a1 = (-1) then (some true) else ((impl_within.f a1 a0 30).bind fun t102 => (if t102 = true then (some (a1 != 0)) else (some false)))) else (some false))) = some r := h
 clear h; obtain ⟨t101, A3, H⟩ := ob_ H
 by_cases c4 : t101 = true
 ·subst c4; rw [if_pos rfl] at H
  by_cases c5 : a1 = (-1)
  ·rw [if_pos c5] at H
   have c5b0 : (a1 == (-1)) = true := beq_iff_eq.mpr c5
   have c5b1 : (a1 != (-1)) = false := bne_eq_false_iff_eq.mpr c5
   clear c5; obtain rfl := Option.some.inj H
   go_enter Tryz.func104, Tryz.ntmps104
   go_wp2_with (first | ((with_reducible refine gate_callee (f := 56) rfl ?_); refine gl_ (some 6) rfl rfl Tryz.func56 #[.int .i64 a0, .int .i64 0, .int .i64 30] ?_; (with_reducible refine (impl_within.calls a0 0 30 true _ A3.o).mono ?_); rintro e w' ⟨rfl, ⟨nd, rfl⟩⟩; refine ⟨_, rfl, ?_⟩))
   go_ret
   exact ⟨by first | rfl | (simp; done) | (simp [*]; done), by repeat (first | exact Drawn0.refl _ | apply Drawn0.step)⟩
  ·rw [if_neg c5] at H
   have c5b0 : (a1 == (-1)) = false := beq_eq_false_iff_ne.mpr c5
   have c5b1 : (a1 != (-1)) = true := bne_iff_ne.mpr c5
   obtain ⟨t102, A6, H⟩ := ob_ H
   by_cases c7 : t102 = true
   ·subst c7; rw [if_pos rfl] at H; obtain rfl := Option.some.inj H
    go_enter Tryz.func104, Tryz.ntmps104
    go_wp2_with (first | ((with_reducible refine gate_callee (f := 56) rfl ?_); refine gl_ (some 6) rfl rfl Tryz.func56 #[.int .i64 a0, .int .i64 0, .int .i64 30] ?_; (with_reducible refine (impl_within.calls a0 0 30 true _ A3.o).mono ?_); rintro e w' ⟨rfl, ⟨nd, rfl⟩⟩; refine ⟨_, rfl, ?_⟩) | (go_at_call 56; (with_reducible refine (impl_within.calls a1 a0 30 true _ A6.o).mono ?_); rintro e w' ⟨rfl, ⟨nd, rfl⟩⟩))
    go_ret
    exact ⟨by first | rfl | (simp; done) | (simp [*]; done), by repeat (first | exact Drawn0.refl _ | apply Drawn0.step)⟩
   ·replace c7 := Bool.eq_false_iff.mpr c7; subst c7; rw [if_neg nft_] at H; obtain rfl := Option.some.inj H
    go_enter Tryz.func104, Tryz.ntmps104
    go_wp2_with (first | ((with_reducible refine gate_callee (f := 56) rfl ?_); refine gl_ (some 6) rfl rfl Tryz.func56 #[.int .i64 a0, .int .i64 0, .int .i64 30] ?_; (with_reducible refine (impl_within.calls a0 0 30 true _ A3.o).mono ?_); rintro e w' ⟨rfl, ⟨nd, rfl⟩⟩; refine ⟨_, rfl, ?_⟩) | (go_at_call 56; (with_reducible refine (impl_within.calls a1 a0 30 false _ A6.o).mono ?_); rintro e w' ⟨rfl, ⟨nd, rfl⟩⟩))
    go_ret
    exact ⟨by first | rfl | (simp; done) | (simp [*]; done), by repeat (first | exact Drawn0.refl _ | apply Drawn0.step)⟩
 ·replace c4 := Bool.eq_false_iff.mpr c4; subst c4; rw [if_neg nft_] at H; obtain rfl := Option.some.inj H
  go_enter Tryz.func104, Tryz.ntmps104
  go_wp2_with (first | ((with_reducible refine gate_callee (f := 56) rfl ?_); refine gl_ (some 6) rfl rfl Tryz.func56 #[.int .i64 a0, .int .i64 0, .int .i64 30] ?_; (with_reducible refine (impl_within.calls a0 0 30 false _ A3.o).mono ?_); rintro e w' ⟨rfl, ⟨nd, rfl⟩⟩; refine ⟨_, rfl, ?_⟩))
  go_ret
  exact ⟨by first | rfl | (simp; done) | (simp [*]; done), by repeat (first | exact Drawn0.refl _ | apply Drawn0.step)⟩
/-! ### impl_ClassOk: function 82 -/
def impl_ClassOk.l0 : Nat → List (S67) → List (S67) → Int → Int → Option (Bool)
 | 0, _, _, _, _ => none
 | k + 1, x0, x5, x6, x7 => if x7 < x6 then (if 0 ≤ x7 then (if x7 < (x5.length : Int) then (if ((rd_T67 x5 x7).f0) < 0 then (some false) else (if ((rd_T67 x5 x7).f0) > ((rd_T67 x5 x7).f1) then (some false) else (if ((rd_T67 x5 x7).f1) > 255 then (some false) else (if x7 > 0 then (if 0 ≤ (wrap64 (x7 - 1)) then (if (wrap64 (x7 - 1)) < (x0.length : Int) then (if ((rd_T67 x5 x7).f0) < (wrap64 (((rd_T67 x0 (wrap64 (x7 - 1))).f1) + 2)) then (some false) else (impl_ClassOk.l0 k x0 x5 x6 (wrap64 (x7 + 1)))) else (none)) else (none)) else (impl_ClassOk.l0 k x0 x5 x6 (wrap64 (x7 + 1))))))) else (none)) else (none)) else (some true)
def impl_ClassOk.f (k : Nat) (l0 : List (S67)) : Option (Bool) := impl_ClassOk.l0 k l0 l0 (l0.length : Int) 0
theorem impl_ClassOk.calls (k : Nat) (A0 : Option Addr) (c0 : Nat) (l0 : List (S67)) (r : Bool) (w : World) (hr0 : Kd.C k67 w A0 l0.length l0) (hc0 : l0.length ≤ c0) (h : impl_ClassOk.f k l0 = some r) :
  Calls Tryz.prog 82 #[.slice A0 l0.length c0] w fun e w' => e = .returned (.bool r) ∧ Below w.heap.size w w' := by
 have hu67 := Tryz.underlying67; have HR0 := q_ hr0; have HC0 := q_ hc0; clear hr0 hc0; have HB := q_ (Below.refl w.heap.size w)
 have H : (impl_ClassOk.l0 k l0 l0 (l0.length : Int) 0) = some r := h
 clear h
 have H' := q_ H
 clear H
 go_enter Tryz.func82, Tryz.ntmps82
 go_wp2
 repeat (go_quiet (fail); try go_wp2)
 go_loopg [7] k (fun kq v7 w' => ∃ (x7_1 : Int), v7 = .int .i64 x7_1 ∧ J0 (impl_ClassOk.l0 kq l0 l0 (l0.length : Int) x7_1 = some r) ∧ J0 (kq ≤ k) ∧ J0 (Below w.heap.size w w'))
 case atStart => exact ⟨(0), rs_, H', ⟨Nat.le_refl _⟩, ⟨be_ HB.o⟩⟩
 case round =>
  clear H'; obtain ⟨x7_1, rfl, HA, HK1, HB⟩ := hrel
  cases gk with
  | zero => exact absurd HA.o (by simp [impl_ClassOk.l0])
  | succ k1 =>
   have H := HA.o; clear HA
   simp only [impl_ClassOk.l0] at H
   by_cases c2 : x7_1 < (l0.length : Int)
   ·rw [if_pos c2] at H; have c2b0 := dt_ c2; clear c2
    by_cases c3 : 0 ≤ x7_1
    ·rw [if_pos c3] at H; have c3b0 := dt_ c3; clear c3
     by_cases c4 : x7_1 < (l0.length : Int)
     ·rw [if_pos c4] at H; have c4b0 := dt_ c4; clear c4
      by_cases c5 : ((rd_T67 l0 x7_1).f0) < 0
      ·rw [if_pos c5] at H; have c5b0 := dt_ c5; clear c5; obtain rfl := Option.some.inj H
       have p101 : 0 ≤ (x7_1 : Int) := of_decide_eq_true as_
       have q101 : x7_1 < (l0.length : Int) := of_decide_eq_true as_
       obtain ⟨ad101, e101, hx101_0, hx101_1⟩ := at_T67 HR0.o x7_1 p101 q101
       cases e101
       replace hx101_0 := mv_ HB.o hx101_0; replace hx101_1 := mv_ HB.o hx101_1; replace p101 := eq_true p101; replace q101 := eq_true q101
       go_wp2_with (((with_reducible refine gate_dst (N := 4) rfl ?_); refine bx_ 4 #[.int .i64 0, .int .i64 0] 67 ?_; intro gb102 hg w6 hbox hb; have BK102 := q_ (hbox); have GW102 := ge_ hg HB; have GE102 := GW102; replace HB := sb_ HB hb; clear hb hbox hg; obtain ⟨hcz7_0, hcz7_1, hfz7_0, hfz7_1⟩ := d2_ BK102))
       repeat (go_quiet (fail); try go_wp2_with (fail))
       go_ret
       exact ⟨rt_, be1_ HB.o GE102.o⟩
      ·rw [if_neg c5] at H; have c5b0 := df_ c5; clear c5
       by_cases c8 : ((rd_T67 l0 x7_1).f0) > ((rd_T67 l0 x7_1).f1)
       ·rw [if_pos c8] at H
        have c8b0 : decide (((rd_T67 l0 x7_1).f1) < ((rd_T67 l0 x7_1).f0)) = true := dt_ c8
        clear c8; obtain rfl := Option.some.inj H
        have p101 : 0 ≤ (x7_1 : Int) := of_decide_eq_true as_
        have q101 : x7_1 < (l0.length : Int) := of_decide_eq_true as_
        obtain ⟨ad101, e101, hx101_0, hx101_1⟩ := at_T67 HR0.o x7_1 p101 q101
        cases e101
        replace hx101_0 := mv_ HB.o hx101_0; replace hx101_1 := mv_ HB.o hx101_1; replace p101 := eq_true p101; replace q101 := eq_true q101
        go_wp2_with (((with_reducible refine gate_dst (N := 4) rfl ?_); refine bx_ 4 #[.int .i64 0, .int .i64 0] 67 ?_; intro gb102 hg w9 hbox hb; have BK102 := q_ (hbox); have GW102 := ge_ hg HB; have GE102 := GW102; replace HB := sb_ HB hb; clear hb hbox hg; obtain ⟨hcz10_0, hcz10_1, hfz10_0, hfz10_1⟩ := d2_ BK102))
        repeat (go_quiet (fail); try go_wp2_with (fail))
        go_ret
        exact ⟨rt_, be1_ HB.o GE102.o⟩
       ·rw [if_neg c8] at H
        have c8b0 : decide (((rd_T67 l0 x7_1).f1) < ((rd_T67 l0 x7_1).f0)) = false := df_ c8
        clear c8
        by_cases c11 : ((rd_T67 l0 x7_1).f1) > 255
        ·rw [if_pos c11] at H
         have c11b0 : decide (255 < ((rd_T67 l0 x7_1).f1)) = true := dt_ c11
         clear c11; obtain rfl := Option.some.inj H
         have p101 : 0 ≤ (x7_1 : Int) := of_decide_eq_true as_
         have q101 : x7_1 < (l0.length : Int) := of_decide_eq_true as_
         obtain ⟨ad101, e101, hx101_0, hx101_1⟩ := at_T67 HR0.o x7_1 p101 q101
         cases e101
         replace hx101_0 := mv_ HB.o hx101_0; replace hx101_1 := mv_ HB.o hx101_1; replace p101 := eq_true p101; replace q101 := eq_true q101
         go_wp2_with (((with_reducible refine gate_dst (N := 4) rfl ?_); refine bx_ 4 #[.int .i64 0, .int .i64 0] 67 ?_; intro gb102 hg w12 hbox hb; have BK102 := q_ (hbox); have GW102 := ge_ hg HB; have GE102 := GW102; replace HB := sb_ HB hb; clear hb hbox hg; obtain ⟨hcz13_0, hcz13_1, hfz13_0, hfz13_1⟩ := d2_ BK102))
         repeat (go_quiet (fail); try go_wp2_with (fail))
         go_ret
         exact ⟨rt_, be1_ HB.o GE102.o⟩
        ·rw [if_neg c11] at H
         have c11b0 : decide (255 < ((rd_T67 l0 x7_1).f1)) = false := df_ c11
         clear c11
         by_cases c14 : x7_1 > 0
         ·rw [if_pos c14] at H
          have c14b0 : decide (0 < x7_1) = true := dt_ c14
          clear c14
          obtain ⟨ji15, hji15⟩ : ∃ j_ : Int, (wrap64 (x7_1 - 1)) = j_ := ⟨_, rfl⟩
          replace H : (if 0 ≤ (ji15) then (if (ji15) < (l0.length : Int) then (if ((rd_T67 l0 x7_1).f0) < (wrap64 (((rd_T67 l0 (ji15)).f1) + 2)) then (some false) else (impl_ClassOk.l0 k1 l0 l0 (l0.length : Int) (wrap64 (x7_1 + 1)))) else (none)) else (none)) = some r := by first | (rw [hji15] at H; exact H) | (simp only [hji15] at H ⊢; exact H)
          have hji15w : (IntKind.i64.wrap (x7_1 - 1)) = ji15 := (i64_w _).trans hji15
          by_cases c16 : 0 ≤ (ji15)
          ·rw [if_pos c16] at H; have c16b0 := dt_ c16; clear c16
           by_cases c17 : (ji15) < (l0.length : Int)
           ·rw [if_pos c17] at H; have c17b0 := dt_ c17; clear c17
            by_cases c18 : ((rd_T67 l0 x7_1).f0) < (wrap64 (((rd_T67 l0 (ji15)).f1) + 2))
            ·rw [if_pos c18] at H; have c18b0 := dt_ c18; clear c18; obtain rfl := Option.some.inj H
             have p101 : 0 ≤ (x7_1 : Int) := of_decide_eq_true as_
             have q101 : x7_1 < (l0.length : Int) := of_decide_eq_true as_
             obtain ⟨ad101, e101, hx101_0, hx101_1⟩ := at_T67 HR0.o x7_1 p101 q101
             cases e101
             replace hx101_0 := mv_ HB.o hx101_0; replace hx101_1 := mv_ HB.o hx101_1; replace p101 := eq_true p101; replace q101 := eq_true q101
             go_wp2_with (((with_reducible refine gate_dst (N := 4) rfl ?_); refine bx_ 4 #[.int .i64 0, .int .i64 0] 67 ?_; intro gb102 hg w19 hbox hb; have BK102 := q_ (hbox); have GW102 := ge_ hg HB; have GE102 := GW102; replace HB := sb_ HB hb; clear hb hbox hg; obtain ⟨hcz20_0, hcz20_1, hfz20_0, hfz20_1⟩ := d2_ BK102; have p103 : 0 ≤ ((ji15) : Int) := of_decide_eq_true as_; have q103 : (ji15) < (l0.length : Int) := of_decide_eq_true as_; obtain ⟨ad103, e103, hx103_0, hx103_1⟩ := at_T67 HR0.o (ji15) p103 q103; obtain rfl : ad101 = ad103 := (by injection e103); have hn103_0 : ad101.block ≠ gb102 := Nat.ne_of_lt (Nat.lt_of_lt_of_le (by have := World.block_lt_of_cell? _ _ hx103_0; first | rwa [add_block] at this | exact this) GW102.o); have hn103_1 : ad101.block ≠ gb102 := Nat.ne_of_lt (Nat.lt_of_lt_of_le (by have := World.block_lt_of_cell? _ _ hx103_0; first | rwa [add_block] at this | exact this) GW102.o); replace hx103_0 := mv_ HB.o hx103_0; replace hx103_1 := mv_ HB.o hx103_1; replace hx103_0 := (cell_far (p := ⟨gb102, 0, none⟩) (by first | (rw [add_block]; exact hn103_0) | (show (Addr.add _ _).block ≠ _; rw [add_block]; exact hn103_0) | exact hn103_0) (.int .i64 ((rd_T67 l0 x7_1).f0))).trans hx103_0; replace hx103_1 := (cell_far (p := ⟨gb102, 0, none⟩) (by first | (rw [add_block]; exact hn103_0) | (show (Addr.add _ _).block ≠ _; rw [add_block]; exact hn103_0) | exact hn103_0) (.int .i64 ((rd_T67 l0 x7_1).f0))).trans hx103_1; replace hx103_0 := (cell_far (p := ⟨gb102, 1, none⟩) (by first | (rw [add_block]; exact hn103_1) | (show (Addr.add _ _).block ≠ _; rw [add_block]; exact hn103_1) | exact hn103_1) (.int .i64 ((rd_T67 l0 x7_1).f1))).trans hx103_0; replace hx103_1 := (cell_far (p := ⟨gb102, 1, none⟩) (by first | (rw [add_block]; exact hn103_1) | (show (Addr.add _ _).block ≠ _; rw [add_block]; exact hn103_1) | exact hn103_1) (.int .i64 ((rd_T67 l0 x7_1).f1))).trans hx103_1; (try have hy103_0 := fun (n_ : Nat) => (show ((((w19.drewN n_).setCell ⟨gb102, 0, none⟩ (.int .i64 ((rd_T67 l0 x7_1).f0))).setCell ⟨gb102, 1, none⟩ (.int .i64 ((rd_T67 l0 x7_1).f1)))).cell? _ = some _ from hx103_0)); (try have hy103_1 := fun (n_ : Nat) => (show ((((w19.drewN n_).setCell ⟨gb102, 0, none⟩ (.int .i64 ((rd_T67 l0 x7_1).f0))).setCell ⟨gb102, 1, none⟩ (.int .i64 ((rd_T67 l0 x7_1).f1)))).cell? _ = some _ from hx103_1)); clear hn103_0; clear hn103_1; replace p103 := eq_true p103; replace q103 := eq_true q103))
             repeat (go_quiet (fail); try go_wp2_with (fail))
             go_ret
             exact ⟨by first | rfl | (simp [errW_none, errW_some] <;> rfl) | (simp only [← hji15]; first | rfl | (simp [errW_none, errW_some] <;> rfl)) | (simp [*, errW_none, errW_some] <;> rfl), be1_ HB.o GE102.o⟩
            ·rw [if_neg c18] at H; have c18b0 := df_ c18; clear c18
             have H' := q_ H
             clear H
             have p101 : 0 ≤ (x7_1 : Int) := of_decide_eq_true as_
             have q101 : x7_1 < (l0.length : Int) := of_decide_eq_true as_
             obtain ⟨ad101, e101, hx101_0, hx101_1⟩ := at_T67 HR0.o x7_1 p101 q101
             cases e101
             replace hx101_0 := mv_ HB.o hx101_0; replace hx101_1 := mv_ HB.o hx101_1; replace p101 := eq_true p101; replace q101 := eq_true q101
             go_wp2_with (((with_reducible refine gate_dst (N := 4) rfl ?_); refine bx_ 4 #[.int .i64 0, .int .i64 0] 67 ?_; intro gb102 hg w21 hbox hb; have BK102 := q_ (hbox); have GW102 := ge_ hg HB; have GE102 := GW102; replace HB := sb_ HB hb; clear hb hbox hg; obtain ⟨hcz22_0, hcz22_1, hfz22_0, hfz22_1⟩ := d2_ BK102; have p103 : 0 ≤ ((ji15) : Int) := of_decide_eq_true as_; have q103 : (ji15) < (l0.length : Int) := of_decide_eq_true as_; obtain ⟨ad103, e103, hx103_0, hx103_1⟩ := at_T67 HR0.o (ji15) p103 q103; obtain rfl : ad101 = ad103 := (by injection e103); have hn103_0 : ad101.block ≠ gb102 := Nat.ne_of_lt (Nat.lt_of_lt_of_le (by have := World.block_lt_of_cell? _ _ hx103_0; first | rwa [add_block] at this | exact this) GW102.o); have hn103_1 : ad101.block ≠ gb102 := Nat.ne_of_lt (Nat.lt_of_lt_of_le (by have := World.block_lt_of_cell? _ _ hx103_0; first | rwa [add_block] at this | exact this) GW102.o); replace hx103_0 := mv_ HB.o hx103_0; replace hx103_1 := mv_ HB.o hx103_1; replace hx103_0 := (cell_far (p := ⟨gb102, 0, none⟩) (by first | (rw [add_block]; exact hn103_0) | (show (Addr.add _ _).block ≠ _; rw [add_block]; exact hn103_0) | exact hn103_0) (.int .i64 ((rd_T67 l0 x7_1).f0))).trans hx103_0; replace hx103_1 := (cell_far (p := ⟨gb102, 0, none⟩) (by first | (rw [add_block]; exact hn103_0) | (show (Addr.add _ _).block ≠ _; rw [add_block]; exact hn103_0) | exact hn103_0) (.int .i64 ((rd_T67 l0 x7_1).f0))).trans hx103_1; replace hx103_0 := (cell_far (p := ⟨gb102, 1, none⟩) (by first | (rw [add_block]; exact hn103_1) | (show (Addr.add _ _).block ≠ _; rw [add_block]; exact hn103_1) | exact hn103_1) (.int .i64 ((rd_T67 l0 x7_1).f1))).trans hx103_0; replace hx103_1 := (cell_far (p := ⟨gb102, 1, none⟩) (by first | (rw [add_block]; exact hn103_1) | (show (Addr.add _ _).block ≠ _; rw [add_block]; exact hn103_1) | exact hn103_1) (.int .i64 ((rd_T67 l0 x7_1).f1))).trans hx103_1; (try have hy103_0 := fun (n_ : Nat) => (show ((((w21.drewN n_).setCell ⟨gb102, 0, none⟩ (.int .i64 ((rd_T67 l0 x7_1).f0))).setCell ⟨gb102, 1, none⟩ (.int .i64 ((rd_T67 l0 x7_1).f1)))).cell? _ = some _ from hx103_0)); (try have hy103_1 := fun (n_ : Nat) => (show ((((w21.drewN n_).setCell ⟨gb102, 0, none⟩ (.int .i64 ((rd_T67 l0 x7_1).f0))).setCell ⟨gb102, 1, none⟩ (.int .i64 ((rd_T67 l0 x7_1).f1)))).cell? _ = some _ from hx103_1)); clear hn103_0; clear hn103_1; replace p103 := eq_true p103; replace q103 := eq_true q103))
             repeat (go_quiet (fail); try go_wp2_with (fail))
             go_roundg k1
             case measure => have := HK1.o; omega
             case rel => exact ⟨(wrap64 (x7_1 + 1)), rs_, H', ⟨by have := HK1.o; omega⟩, ⟨be1_ HB.o GE102.o⟩⟩
           ·rw [if_neg c17] at H
            exact absurd H (by simp)
          ·rw [if_neg c16] at H
           exact absurd H (by simp)
         ·rw [if_neg c14] at H
          have c14b0 : decide (0 < x7_1) = false := df_ c14
          clear c14
          have H' := q_ H
          clear H
          have p101 : 0 ≤ (x7_1 : Int) := of_decide_eq_true as_
          have q101 : x7_1 < (l0.length : Int) := of_decide_eq_true as_
          obtain ⟨ad101, e101, hx101_0, hx101_1⟩ := at_T67 HR0.o x7_1 p101 q101
          cases e101
          replace hx101_0 := mv_ HB.o hx101_0; replace hx101_1 := mv_ HB.o hx101_1; replace p101 := eq_true p101; replace q101 := eq_true q101
          go_wp2_with (((with_reducible refine gate_dst (N := 4) rfl ?_); refine bx_ 4 #[.int .i64 0, .int .i64 0] 67 ?_; intro gb102 hg w23 hbox hb; have BK102 := q_ (hbox); have GW102 := ge_ hg HB; have GE102 := GW102; replace HB := sb_ HB hb; clear hb hbox hg; obtain ⟨hcz24_0, hcz24_1, hfz24_0, hfz24_1⟩ := d2_ BK102))
          repeat (go_quiet (fail); try go_wp2_with (fail))
          go_roundg k1
          case measure => have := HK1.o; omega
          case rel => exact ⟨(wrap64 (x7_1 + 1)), rs_, H', ⟨by have := HK1.o; omega⟩, ⟨be1_ HB.o GE102.o⟩⟩
     ·rw [if_neg c4] at H
      exact absurd H (by simp)
    ·rw [if_neg c3] at H
     exact absurd H (by simp)
   ·rw [if_neg c2] at H; have c2b0 := df_ c2; clear c2; obtain rfl := Option.some.inj H
    go_wp2
    repeat (go_quiet (fail); try go_wp2)
    go_ret
    exact ⟨rt_, be_ HB.o⟩
/-! ### spec_ClassOk: function 77 -/
def spec_ClassOk.l0 : Nat → List (S67) → Int → Option (Bool)
 | 0, _, _ => none
 | k + 1, x0, x3 => if x3 < (x0.length : Int) then (if 0 ≤ x3 then ((spec_l1In.f ((rd_T67 x0 x3).f0) 0 255).bind fun t102 => (if t102 = true then ((spec_l1In.f ((rd_T67 x0 x3).f1) ((rd_T67 x0 x3).f0) 255).bind fun t105 => (if t105 = true then (if x3 > 0 then (if 0 ≤ (wrap64 (x3 - 1)) then (if (wrap64 (x3 - 1)) < (x0.length : Int) then (if ((rd_T67 x0 x3).f0) < (wrap64 (((rd_T67 x0 (wrap64 (x3 - 1))).f1) + 2)) then (some false) else (spec_ClassOk.l0 k x0 (wrap64 (x3 + 1)))) else (none)) else (none)) else (spec_ClassOk.l0 k x0 (wrap64 (x3 + 1)))) else (some false))) else (some false))) else (none)) else (some true)
def spec_ClassOk.f (k : Nat) (l0 : List (S67)) : Option (Bool) := if (l0.length : Int) > 128 then (some false) else (spec_ClassOk.l0 k l0 0)
def spec_ClassOk.T6 : Bool × List (List Nat × List Nat) := (true, [([], []), ([], []), ([0, 1], [0, 1]), ([2], [2]), ([3], [3]), ([4], [4]), ([5], [5]), ([6, 5], [6]), ([7], [7]), ([7], [7]), ([8, 9, 7], [7, 8, 9]), ([10, 7], [7, 10]), ([11, 7], [7, 11]), ([7], [7]), ([7], [7]), ([13, 14, 7], [7, 13, 14]), ([15, 7], [7, 15]), ([16, 7], [7, 16]), ([12, 17, 7, 7], [7, 12, 17]), ([18, 7], [7, 18]), ([7, 19], [7, 19]), ([20, 18], [20]), ([21], [21]), ([22, 21], [21, 22]), ([23, 21, 21], [21, 23]), ([24], [24]), ([24], [24]), ([25, 26, 24], [24, 25, 26]), ([27, 24], [24, 27]), ([28, 24], [24, 28]), ([24], [24]), ([24], [24]), ([31, 24], [24, 31]), ([30, 32, 24], [24, 30, 32]), ([33, 24], [24, 33]), ([34, 24], [24, 34]), ([35, 24], [24, 35]), ([29, 36, 24], [24, 29, 36]), ([24, 37, 21], [21, 24, 37]), ([21, 38], [21, 38])])
def spec_ClassOk.B6 : List Nat := [0, 0, 3, 7, 15, 31, 63, 127, 255, 255, 1023, 2047, 4095, 255, 255, 24831, 57599, 123135, 262143, 524287, 1048575, 2097151, 4194303, 8388607, 16777215, 33554431, 33554431, 134217727, 268435455, 536870911, 33554431, 33554431, 2181038079, 7549747199, 16139681791, 33319550975, 67679289343, 137438953471, 274877906943, 549755813887]
theorem spec_ClassOk.tab6 : rtab .any (opsOf Tryz.f77 6) = spec_ClassOk.T6 := by kernel_rfl
theorem spec_ClassOk.bits6 : waitsOk spec_ClassOk.T6.2 spec_ClassOk.B6 = true := by kernel_rfl
theorem spec_ClassOk.calls (k : Nat) (A0 : Option Addr) (c0 : Nat) (l0 : List (S67)) (r : Bool) (w : World) (hr0 : Kd.C k67 w A0 l0.length l0) (hc0 : l0.length ≤ c0) (h : spec_ClassOk.f k l0 = some r) :
  Calls Tryz.prog 77 #[.slice A0 l0.length c0] w fun e w' => e = .returned (.bool r) ∧ Below w.heap.size w w' := by
 have HR0 := q_ hr0; have HC0 := q_ hc0; clear hr0 hc0; have HB := q_ (Below.refl w.heap.size w)
 have H : (if (l0.length : Int) > 128 then (some false) else (spec_ClassOk.l0 k l0 0)) = some r := h
 clear h
 by_cases c2 : (l0.length : Int) > 128
 ·rw [if_pos c2] at H
  have c2b0 : decide (128 < (l0.length : Int)) = true := dt_ c2
  have c2b1 : decide (128 < l0.length) = true := decide_eq_true (by omega)
  clear c2; obtain rfl := Option.some.inj H
  go_enter Tryz.func77, Tryz.ntmps77
  go_wp2
  go_ret
  exact ⟨rt_, be_ HB.o⟩
 ·rw [if_neg c2] at H
  have c2b0 : decide (128 < (l0.length : Int)) = false := df_ c2
  have c2b1 : decide (128 < l0.length) = false := decide_eq_false (by omega)
  clear c2
  have H' := q_ H
  clear H
  go_enter Tryz.func77, Tryz.ntmps77
  go_wp2
  go_loopg [3] k (fun kq v3 w' => ∃ (x3_1 : Int), v3 = .int .i64 x3_1 ∧ J0 (spec_ClassOk.l0 kq l0 x3_1 = some r) ∧ J0 (kq ≤ k) ∧ J0 (Below w.heap.size w w'))
  case atStart => exact ⟨(0), rs_, H', ⟨Nat.le_refl _⟩, ⟨be_ HB.o⟩⟩
  case round =>
   clear H'; (try clear c2); (try clear c2b0); (try clear c2b1); obtain ⟨x3_1, rfl, HA, HK1, HB⟩ := hrel
   cases gk with
   | zero => exact absurd HA.o (by simp [spec_ClassOk.l0])
   | succ k1 =>
    have H := HA.o; clear HA
    simp only [spec_ClassOk.l0] at H
    by_cases c3 : x3_1 < (l0.length : Int)
    ·rw [if_pos c3] at H; have c3b0 := dt_ c3; clear c3
     by_cases c4 : 0 ≤ x3_1
     ·rw [if_pos c4] at H; have c4b0 := dt_ c4; clear c4; obtain ⟨t102, A5, H⟩ := ob_ H
      by_cases c6 : t102 = true
      ·subst c6; rw [if_pos rfl] at H; obtain ⟨t105, A7, H⟩ := ob_ H
       by_cases c8 : t105 = true
       ·subst c8; rw [if_pos rfl] at H
        by_cases c9 : x3_1 > 0
        ·rw [if_pos c9] at H
         have c9b0 : decide (0 < x3_1) = true := dt_ c9
         clear c9
         obtain ⟨ji10, hji10⟩ : ∃ j_ : Int, (wrap64 (x3_1 - 1)) = j_ := ⟨_, rfl⟩
         replace H : (if 0 ≤ (ji10) then (if (ji10) < (l0.length : Int) then (if ((rd_T67 l0 x3_1).f0) < (wrap64 (((rd_T67 l0 (ji10)).f1) + 2)) then (some false) else (spec_ClassOk.l0 k1 l0 (wrap64 (x3_1 + 1)))) else (none)) else (none)) = some r := by first | (rw [hji10] at H; exact H) | (simp only [hji10] at H ⊢; exact H)
         (try rw [hji10] at A5)
         (try rw [hji10] at A7)
         have hji10w : (IntKind.i64.wrap (x3_1 - 1)) = ji10 := (i64_w _).trans hji10
         by_cases c11 : 0 ≤ (ji10)
         ·rw [if_pos c11] at H; have c11b0 := dt_ c11; clear c11
          by_cases c12 : (ji10) < (l0.length : Int)
          ·rw [if_pos c12] at H; have c12b0 := dt_ c12; clear c12
           by_cases c13 : ((rd_T67 l0 x3_1).f0) < (wrap64 (((rd_T67 l0 (ji10)).f1) + 2))
           ·rw [if_pos c13] at H; have c13b0 := dt_ c13; clear c13; obtain rfl := Option.some.inj H
            try go_wp2
            replace HB := q_ (below_drew1 HB.o)
            have p101 : 0 ≤ (x3_1 : Int) := of_decide_eq_true as_
            have q101 : x3_1 < (l0.length : Int) := of_decide_eq_true as_
            obtain ⟨ad101, e101, hx101_0, hx101_1⟩ := at_T67 HR0.o x3_1 p101 q101; have hw101_1 := hx101_1; have hw101_0 := hx101_0
            cases e101
            replace hx101_0 := mv_ HB.o hx101_0; replace hx101_1 := mv_ HB.o hx101_1; replace p101 := eq_true p101; replace q101 := eq_true q101
            have p107 : 0 ≤ ((ji10) : Int) := of_decide_eq_true as_
            have q107 : (ji10) < (l0.length : Int) := of_decide_eq_true as_
            obtain ⟨ad107, e107, hx107_0, hx107_1⟩ := at_T67 HR0.o (ji10) p107 q107; have hw107_1 := hx107_1; have hw107_0 := hx107_0
            obtain rfl : ad101 = ad107 := (by injection e107)
            replace hx107_0 := mv_ HB.o hx107_0; replace hx107_1 := mv_ HB.o hx107_1; replace p107 := eq_true p107; replace q107 := eq_true q107
            refine start_ (n := 40) (S := fun w' => w'.cell? (ad101.add ((x3_1).toNat * 2)) = some (.int .i64 ((rd_T67 l0 x3_1).f0)) ∧ w'.cell? ⟨(ad101.add ((x3_1).toNat * 2)).block, (ad101.add ((x3_1).toNat * 2)).off + 1, none⟩ = some (.int .i64 ((rd_T67 l0 x3_1).f1)) ∧ w'.cell? (ad101.add (((ji10)).toNat * 2)) = some (.int .i64 ((rd_T67 l0 (ji10)).f0)) ∧ w'.cell? ⟨(ad101.add (((ji10)).toNat * 2)).block, (ad101.add (((ji10)).toNat * 2)).off + 1, none⟩ = some (.int .i64 ((rd_T67 l0 (ji10)).f1))) (ds := []) (bb 40 0) (by kernel_rfl) rfl rfl ⟨(mv_ HB.o hw101_0), (mv_ HB.o hw101_1), (mv_ HB.o hw107_0), (mv_ HB.o hw107_1)⟩ (fun hHeld => ?_); refine with_tabW spec_ClassOk.tab6 spec_ClassOk.bits6 (fun HT_ HW_ => ?_)
            generalize wr.drew = w14 at HB hx101_0 hx101_1 hx107_0 hx107_1 hHeld ⊢
            refine pv_ 0 13 1 HT_.o ?_; refine pv_ 1 14 3 HT_.o ?_; refine pv_ 2 15 7 HT_.o ?_; refine pv_ 3 16 15 HT_.o ?_; refine tv_ 4 17 31 HT_.o HW_.o hHeld ?_
            refine one_ (i := 5) (N := some 18) (bb 40 63) rfl rfl (one_of HT_.o (by kernel_rfl)) (by decide) (fun K hK => ?_)
            refine gs_ Tryz.func51 #[.int .i64 ((rd_T67 l0 x3_1).f0), .int .i64 0, .int .i64 255] ?_
            with_reducible refine (spec_l1In.calls ((rd_T67 l0 x3_1).f0) 0 255 true _ A5.o).mono ?_
            rintro e w' ⟨rfl, ⟨nd, rfl⟩⟩; refine ⟨_, rfl, ?_⟩
            refine hK.out _ _ ⟨(mv_ HB.o hw101_0), (mv_ HB.o hw101_1), (mv_ HB.o hw107_0), (mv_ HB.o hw107_1)⟩ (fun hHeld => ?_)
            clear hK K; refine no_ (some 18) ?_; refine pv_ 6 19 127 HT_.o ?_; refine pv_ 7 20 255 HT_.o ?_; refine pv_ 8 21 511 HT_.o ?_; refine pv_ 9 22 1023 HT_.o ?_; refine pv_ 10 23 2047 HT_.o ?_; refine pv_ 11 24 4095 HT_.o ?_; refine pv_ 13 26 12287 HT_.o ?_; refine pv_ 14 27 28671 HT_.o ?_; refine pv_ 15 28 61439 HT_.o ?_; refine pv_ 16 29 126975 HT_.o ?_; refine tv_ 12 25 131071 HT_.o HW_.o hHeld ?_; refine tv_ 17 30 262143 HT_.o HW_.o hHeld ?_
            refine one_ (i := 18) (N := some 31) (bb 40 524287) rfl rfl (one_of HT_.o (by kernel_rfl)) (by decide) (fun K hK => ?_)
            refine gs_ Tryz.func51 #[.int .i64 ((rd_T67 l0 x3_1).f1), .int .i64 ((rd_T67 l0 x3_1).f0), .int .i64 255] ?_
            with_reducible refine (spec_l1In.calls ((rd_T67 l0 x3_1).f1) ((rd_T67 l0 x3_1).f0) 255 true _ A7.o).mono ?_
            rintro e w' ⟨rfl, ⟨nd, rfl⟩⟩; refine ⟨_, rfl, ?_⟩
            refine hK.out _ _ ⟨(mv_ HB.o hw101_0), (mv_ HB.o hw101_1), (mv_ HB.o hw107_0), (mv_ HB.o hw107_1)⟩ (fun hHeld => ?_)
            clear hK K; refine no_ (some 31) ?_; refine pv_ 19 32 1048575 HT_.o ?_; refine pv_ 20 33 2097151 HT_.o ?_; refine pv_ 21 34 4194303 HT_.o ?_; refine pv_ 22 35 8388607 HT_.o ?_; refine pv_ 23 36 16777215 HT_.o ?_; refine pv_ 24 37 33554431 HT_.o ?_; refine pv_ 25 38 67108863 HT_.o ?_; refine pv_ 26 39 134217727 HT_.o ?_; refine pv_ 27 40 268435455 HT_.o ?_; refine pv_ 28 41 536870911 HT_.o ?_; refine pv_ 30 43 1610612735 HT_.o ?_; refine pv_ 31 44 3758096383 HT_.o ?_; refine pv_ 32 45 8053063679 HT_.o ?_; refine pv_ 33 46 16642998271 HT_.o ?_; refine pv_ 34 47 33822867455 HT_.o ?_; refine tv_ 29 42 34359738367 HT_.o HW_.o hHeld ?_; refine tv_ 35 48 68719476735 HT_.o HW_.o hHeld ?_; refine pv_ 36 49 137438953471 HT_.o ?_; refine pv_ 37 50 274877906943 HT_.o ?_; refine pv_ 38 51 549755813887 HT_.o ?_; refine pv_ 39 52 1099511627775 HT_.o ?_
            refine done_ (done_of HT_.o (by kernel_rfl)) ?_
            try go_wp2
            go_ret
            exact ⟨by first | rfl | (simp [errW_none, errW_some] <;> rfl) | (simp only [← hji10]; first | rfl | (simp [errW_none, errW_some] <;> rfl)) | (simp [*, errW_none, errW_some] <;> rfl), be_ HB.o⟩
           ·rw [if_neg c13] at H; have c13b0 := df_ c13; clear c13
            have H' := q_ H
            clear H
            try go_wp2
            replace HB := q_ (below_drew1 HB.o)
            have p101 : 0 ≤ (x3_1 : Int) := of_decide_eq_true as_
            have q101 : x3_1 < (l0.length : Int) := of_decide_eq_true as_
            obtain ⟨ad101, e101, hx101_0, hx101_1⟩ := at_T67 HR0.o x3_1 p101 q101; have hw101_1 := hx101_1; have hw101_0 := hx101_0
            cases e101
            replace hx101_0 := mv_ HB.o hx101_0; replace hx101_1 := mv_ HB.o hx101_1; replace p101 := eq_true p101; replace q101 := eq_true q101
            have p107 : 0 ≤ ((ji10) : Int) := of_decide_eq_true as_
            have q107 : (ji10) < (l0.length : Int) := of_decide_eq_true as_
            obtain ⟨ad107, e107, hx107_0, hx107_1⟩ := at_T67 HR0.o (ji10) p107 q107; have hw107_1 := hx107_1; have hw107_0 := hx107_0
            obtain rfl : ad101 = ad107 := (by injection e107)
            replace hx107_0 := mv_ HB.o hx107_0; replace hx107_1 := mv_ HB.o hx107_1; replace p107 := eq_true p107; replace q107 := eq_true q107
            refine start_ (n := 40) (S := fun w' => w'.cell? (ad101.add ((x3_1).toNat * 2)) = some (.int .i64 ((rd_T67 l0 x3_1).f0)) ∧ w'.cell? ⟨(ad101.add ((x3_1).toNat * 2)).block, (ad101.add ((x3_1).toNat * 2)).off + 1, none⟩ = some (.int .i64 ((rd_T67 l0 x3_1).f1)) ∧ w'.cell? (ad101.add (((ji10)).toNat * 2)) = some (.int .i64 ((rd_T67 l0 (ji10)).f0)) ∧ w'.cell? ⟨(ad101.add (((ji10)).toNat * 2)).block, (ad101.add (((ji10)).toNat * 2)).off + 1, none⟩ = some (.int .i64 ((rd_T67 l0 (ji10)).f1))) (ds := []) (bb 40 0) (by kernel_rfl) rfl rfl ⟨(mv_ HB.o hw101_0), (mv_ HB.o hw101_1), (mv_ HB.o hw107_0), (mv_ HB.o hw107_1)⟩ (fun hHeld => ?_); refine with_tabW spec_ClassOk.tab6 spec_ClassOk.bits6 (fun HT_ HW_ => ?_)
            generalize wr.drew = w15 at HB hx101_0 hx101_1 hx107_0 hx107_1 hHeld ⊢
            refine pv_ 0 13 1 HT_.o ?_; refine pv_ 1 14 3 HT_.o ?_; refine pv_ 2 15 7 HT_.o ?_; refine pv_ 3 16 15 HT_.o ?_; refine tv_ 4 17 31 HT_.o HW_.o hHeld ?_
            refine one_ (i := 5) (N := some 18) (bb 40 63) rfl rfl (one_of HT_.o (by kernel_rfl)) (by decide) (fun K hK => ?_)
            refine gs_ Tryz.func51 #[.int .i64 ((rd_T67 l0 x3_1).f0), .int .i64 0, .int .i64 255] ?_
            with_reducible refine (spec_l1In.calls ((rd_T67 l0 x3_1).f0) 0 255 true _ A5.o).mono ?_
            rintro e w' ⟨rfl, ⟨nd, rfl⟩⟩; refine ⟨_, rfl, ?_⟩
            refine hK.out _ _ ⟨(mv_ HB.o hw101_0), (mv_ HB.o hw101_1), (mv_ HB.o hw107_0), (mv_ HB.o hw107_1)⟩ (fun hHeld => ?_)
            clear hK K; refine no_ (some 18) ?_; refine pv_ 6 19 127 HT_.o ?_; refine pv_ 7 20 255 HT_.o ?_; refine pv_ 8 21 511 HT_.o ?_; refine pv_ 9 22 1023 HT_.o ?_; refine pv_ 10 23 2047 HT_.o ?_; refine pv_ 11 24 4095 HT_.o ?_; refine pv_ 13 26 12287 HT_.o ?_; refine pv_ 14 27 28671 HT_.o ?_; refine pv_ 15 28 61439 HT_.o ?_; refine pv_ 16 29 126975 HT_.o ?_; refine tv_ 12 25 131071 HT_.o HW_.o hHeld ?_; refine tv_ 17 30 262143 HT_.o HW_.o hHeld ?_
            refine one_ (i := 18) (N := some 31) (bb 40 524287) rfl rfl (one_of HT_.o (by kernel_rfl)) (by decide) (fun K hK => ?_)
            refine gs_ Tryz.func51 #[.int .i64 ((rd_T67 l0 x3_1).f1), .int .i64 ((rd_T67 l0 x3_1).f0), .int .i64 255] ?_
            with_reducible refine (spec_l1In.calls ((rd_T67 l0 x3_1).f1) ((rd_T67 l0 x3_1).f0) 255 true _ A7.o).mono ?_
            rintro e w' ⟨rfl, ⟨nd, rfl⟩⟩; refine ⟨_, rfl, ?_⟩
            refine hK.out _ _ ⟨(mv_ HB.o hw101_0), (mv_ HB.o hw101_1), (mv_ HB.o hw107_0), (mv_ HB.o hw107_1)⟩ (fun hHeld => ?_)
            clear hK K; refine no_ (some 31) ?_; refine pv_ 19 32 1048575 HT_.o ?_; refine pv_ 20 33 2097151 HT_.o ?_; refine pv_ 21 34 4194303 HT_.o ?_; refine pv_ 22 35 8388607 HT_.o ?_; refine pv_ 23 36 16777215 HT_.o ?_; refine pv_ 24 37 33554431 HT_.o ?_; refine pv_ 25 38 67108863 HT_.o ?_; refine pv_ 26 39 134217727 HT_.o ?_; refine pv_ 27 40 268435455 HT_.o ?_; refine pv_ 28 41 536870911 HT_.o ?_; refine pv_ 30 43 1610612735 HT_.o ?_; refine pv_ 31 44 3758096383 HT_.o ?_; refine pv_ 32 45 8053063679 HT_.o ?_; refine pv_ 33 46 16642998271 HT_.o ?_; refine pv_ 34 47 33822867455 HT_.o ?_; refine tv_ 29 42 34359738367 HT_.o HW_.o hHeld ?_; refine tv_ 35 48 68719476735 HT_.o HW_.o hHeld ?_; refine pv_ 36 49 137438953471 HT_.o ?_; refine pv_ 37 50 274877906943 HT_.o ?_; refine pv_ 38 51 549755813887 HT_.o ?_; refine pv_ 39 52 1099511627775 HT_.o ?_
            refine done_ (done_of HT_.o (by kernel_rfl)) ?_
            try go_wp2
            go_roundg k1
            case measure => have := HK1.o; omega
            case rel => exact ⟨(wrap64 (x3_1 + 1)), rs_, H', ⟨by have := HK1.o; omega⟩, ⟨be_ HB.o⟩⟩
          ·rw [if_neg c12] at H
           exact absurd H (by simp)
         ·rw [if_neg c11] at H
          exact absurd H (by simp)
        ·rw [if_neg c9] at H
         have c9b0 : decide (0 < x3_1) = false := df_ c9
         clear c9
         have H' := q_ H
         clear H
         try go_wp2
         replace HB := q_ (below_drew1 HB.o)
         have p101 : 0 ≤ (x3_1 : Int) := of_decide_eq_true as_
         have q101 : x3_1 < (l0.length : Int) := of_decide_eq_true as_
         obtain ⟨ad101, e101, hx101_0, hx101_1⟩ := at_T67 HR0.o x3_1 p101 q101; have hw101_1 := hx101_1; have hw101_0 := hx101_0
         cases e101
         replace hx101_0 := mv_ HB.o hx101_0; replace hx101_1 := mv_ HB.o hx101_1; replace p101 := eq_true p101; replace q101 := eq_true q101
         refine start_ (n := 40) (S := fun w' => w'.cell? (ad101.add ((x3_1).toNat * 2)) = some (.int .i64 ((rd_T67 l0 x3_1).f0)) ∧ w'.cell? ⟨(ad101.add ((x3_1).toNat * 2)).block, (ad101.add ((x3_1).toNat * 2)).off + 1, none⟩ = some (.int .i64 ((rd_T67 l0 x3_1).f1))) (ds := []) (bb 40 0) (by kernel_rfl) rfl rfl ⟨(mv_ HB.o hw101_0), (mv_ HB.o hw101_1)⟩ (fun hHeld => ?_); refine with_tabW spec_ClassOk.tab6 spec_ClassOk.bits6 (fun HT_ HW_ => ?_)
         generalize wr.drew = w16 at HB hx101_0 hx101_1 hHeld ⊢
         refine pv_ 0 13 1 HT_.o ?_; refine pv_ 1 14 3 HT_.o ?_; refine pv_ 2 15 7 HT_.o ?_; refine pv_ 3 16 15 HT_.o ?_; refine tv_ 4 17 31 HT_.o HW_.o hHeld ?_
         refine one_ (i := 5) (N := some 18) (bb 40 63) rfl rfl (one_of HT_.o (by kernel_rfl)) (by decide) (fun K hK => ?_)
         refine gs_ Tryz.func51 #[.int .i64 ((rd_T67 l0 x3_1).f0), .int .i64 0, .int .i64 255] ?_
         with_reducible refine (spec_l1In.calls ((rd_T67 l0 x3_1).f0) 0 255 true _ A5.o).mono ?_
         rintro e w' ⟨rfl, ⟨nd, rfl⟩⟩; refine ⟨_, rfl, ?_⟩
         refine hK.out _ _ ⟨(mv_ HB.o hw101_0), (mv_ HB.o hw101_1)⟩ (fun hHeld => ?_)
         clear hK K; refine no_ (some 18) ?_; refine pv_ 6 19 127 HT_.o ?_; refine pv_ 7 20 255 HT_.o ?_; refine pv_ 8 21 511 HT_.o ?_; refine pv_ 9 22 1023 HT_.o ?_; refine pv_ 10 23 2047 HT_.o ?_; refine pv_ 11 24 4095 HT_.o ?_; refine pv_ 13 26 12287 HT_.o ?_; refine pv_ 14 27 28671 HT_.o ?_; refine pv_ 15 28 61439 HT_.o ?_; refine pv_ 16 29 126975 HT_.o ?_; refine tv_ 12 25 131071 HT_.o HW_.o hHeld ?_; refine tv_ 17 30 262143 HT_.o HW_.o hHeld ?_
         refine one_ (i := 18) (N := some 31) (bb 40 524287) rfl rfl (one_of HT_.o (by kernel_rfl)) (by decide) (fun K hK => ?_)
         refine gs_ Tryz.func51 #[.int .i64 ((rd_T67 l0 x3_1).f1), .int .i64 ((rd_T67 l0 x3_1).f0), .int .i64 255] ?_
         with_reducible refine (spec_l1In.calls ((rd_T67 l0 x3_1).f1) ((rd_T67 l0 x3_1).f0) 255 true _ A7.o).mono ?_
         rintro e w' ⟨rfl, ⟨nd, rfl⟩⟩; refine ⟨_, rfl, ?_⟩
         refine hK.out _ _ ⟨(mv_ HB.o hw101_0), (mv_ HB.o hw101_1)⟩ (fun hHeld => ?_)
         clear hK K; refine no_ (some 31) ?_; refine pv_ 19 32 1048575 HT_.o ?_; refine pv_ 20 33 2097151 HT_.o ?_; refine pv_ 21 34 4194303 HT_.o ?_; refine pv_ 22 35 8388607 HT_.o ?_; refine pv_ 23 36 16777215 HT_.o ?_; refine pv_ 24 37 33554431 HT_.o ?_; refine pw_ 25 (some 38) (bb 40 67108863) HT_.o ?_; refine pw_ 26 (some 39) (bb 40 134217727) HT_.o ?_; refine pw_ 27 (some 40) (bb 40 268435455) HT_.o ?_; refine pw_ 28 (some 41) (bb 40 536870911) HT_.o ?_; refine pw_ 29 (some 42) (bb 40 1073741823) HT_.o ?_; refine pw_ 30 (some 43) (bb 40 2147483647) HT_.o ?_; refine pw_ 31 (some 44) (bb 40 4294967295) HT_.o ?_; refine pw_ 32 (some 45) (bb 40 8589934591) HT_.o ?_; refine pw_ 33 (some 46) (bb 40 17179869183) HT_.o ?_; refine pw_ 34 (some 47) (bb 40 34359738367) HT_.o ?_; refine pw_ 35 (some 48) (bb 40 68719476735) HT_.o ?_; refine pw_ 36 (some 49) (bb 40 137438953471) HT_.o ?_; refine pw_ 37 (some 50) (bb 40 274877906943) HT_.o ?_; refine pv_ 38 51 549755813887 HT_.o ?_; refine pv_ 39 52 1099511627775 HT_.o ?_
         refine done_ (done_of HT_.o (by kernel_rfl)) ?_
         try go_wp2
         go_roundg k1
         case measure => have := HK1.o; omega
         case rel => exact ⟨(wrap64 (x3_1 + 1)), rs_, H', ⟨by have := HK1.o; omega⟩, ⟨be_ HB.o⟩⟩
       ·replace c8 := Bool.eq_false_iff.mpr c8; subst c8; rw [if_neg nft_] at H; obtain rfl := Option.some.inj H
        try go_wp2
        replace HB := q_ (below_drew1 HB.o)
        have p101 : 0 ≤ (x3_1 : Int) := of_decide_eq_true as_
        have q101 : x3_1 < (l0.length : Int) := of_decide_eq_true as_
        obtain ⟨ad101, e101, hx101_0, hx101_1⟩ := at_T67 HR0.o x3_1 p101 q101; have hw101_1 := hx101_1; have hw101_0 := hx101_0
        cases e101
        replace hx101_0 := mv_ HB.o hx101_0; replace hx101_1 := mv_ HB.o hx101_1; replace p101 := eq_true p101; replace q101 := eq_true q101
        refine start_ (n := 40) (S := fun w' => w'.cell? (ad101.add ((x3_1).toNat * 2)) = some (.int .i64 ((rd_T67 l0 x3_1).f0)) ∧ w'.cell? ⟨(ad101.add ((x3_1).toNat * 2)).block, (ad101.add ((x3_1).toNat * 2)).off + 1, none⟩ = some (.int .i64 ((rd_T67 l0 x3_1).f1))) (ds := []) (bb 40 0) (by kernel_rfl) rfl rfl ⟨(mv_ HB.o hw101_0), (mv_ HB.o hw101_1)⟩ (fun hHeld => ?_); refine with_tabW spec_ClassOk.tab6 spec_ClassOk.bits6 (fun HT_ HW_ => ?_)
        generalize wr.drew = w17 at HB hx101_0 hx101_1 hHeld ⊢
        refine pv_ 0 13 1 HT_.o ?_; refine pv_ 1 14 3 HT_.o ?_; refine pv_ 2 15 7 HT_.o ?_; refine pv_ 3 16 15 HT_.o ?_; refine tv_ 4 17 31 HT_.o HW_.o hHeld ?_
        refine one_ (i := 5) (N := some 18) (bb 40 63) rfl rfl (one_of HT_.o (by kernel_rfl)) (by decide) (fun K hK => ?_)
        refine gs_ Tryz.func51 #[.int .i64 ((rd_T67 l0 x3_1).f0), .int .i64 0, .int .i64 255] ?_
        with_reducible refine (spec_l1In.calls ((rd_T67 l0 x3_1).f0) 0 255 true _ A5.o).mono ?_
        rintro e w' ⟨rfl, ⟨nd, rfl⟩⟩; refine ⟨_, rfl, ?_⟩
        refine hK.out _ _ ⟨(mv_ HB.o hw101_0), (mv_ HB.o hw101_1)⟩ (fun hHeld => ?_)
        clear hK K; refine no_ (some 18) ?_; refine pv_ 6 19 127 HT_.o ?_; refine pv_ 7 20 255 HT_.o ?_; refine pv_ 8 21 511 HT_.o ?_; refine pv_ 9 22 1023 HT_.o ?_; refine pv_ 10 23 2047 HT_.o ?_; refine pv_ 11 24 4095 HT_.o ?_; refine pv_ 13 26 12287 HT_.o ?_; refine pv_ 14 27 28671 HT_.o ?_; refine pv_ 15 28 61439 HT_.o ?_; refine pv_ 16 29 126975 HT_.o ?_; refine tv_ 12 25 131071 HT_.o HW_.o hHeld ?_; refine tv_ 17 30 262143 HT_.o HW_.o hHeld ?_
        refine one_ (i := 18) (N := some 31) (bb 40 524287) rfl rfl (one_of HT_.o (by kernel_rfl)) (by decide) (fun K hK => ?_)
        refine gs_ Tryz.func51 #[.int .i64 ((rd_T67 l0 x3_1).f1), .int .i64 ((rd_T67 l0 x3_1).f0), .int .i64 255] ?_
        with_reducible refine (spec_l1In.calls ((rd_T67 l0 x3_1).f1) ((rd_T67 l0 x3_1).f0) 255 false _ A7.o).mono ?_
        rintro e w' ⟨rfl, ⟨nd, rfl⟩⟩; refine ⟨_, rfl, ?_⟩
        refine hK.out _ _ ⟨(mv_ HB.o hw101_0), (mv_ HB.o hw101_1)⟩ (fun hHeld => ?_)
        clear hK K; refine no_ (some 31) ?_; refine pv_ 19 32 1048575 HT_.o ?_; refine pv_ 20 33 2097151 HT_.o ?_; refine pv_ 21 34 4194303 HT_.o ?_; refine pw_ 22 (some 35) (bb 40 8388607) HT_.o ?_; refine pw_ 23 (some 36) (bb 40 16777215) HT_.o ?_; refine pw_ 24 (some 37) (bb 40 33554431) HT_.o ?_; refine pw_ 25 (some 38) (bb 40 67108863) HT_.o ?_; refine pw_ 26 (some 39) (bb 40 134217727) HT_.o ?_; refine pw_ 27 (some 40) (bb 40 268435455) HT_.o ?_; refine pw_ 28 (some 41) (bb 40 536870911) HT_.o ?_; refine pw_ 29 (some 42) (bb 40 1073741823) HT_.o ?_; refine pw_ 30 (some 43) (bb 40 2147483647) HT_.o ?_; refine pw_ 31 (some 44) (bb 40 4294967295) HT_.o ?_; refine pw_ 32 (some 45) (bb 40 8589934591) HT_.o ?_; refine pw_ 33 (some 46) (bb 40 17179869183) HT_.o ?_; refine pw_ 34 (some 47) (bb 40 34359738367) HT_.o ?_; refine pw_ 35 (some 48) (bb 40 68719476735) HT_.o ?_; refine pw_ 36 (some 49) (bb 40 137438953471) HT_.o ?_; refine pw_ 37 (some 50) (bb 40 274877906943) HT_.o ?_; refine pw_ 38 (some 51) (bb 40 549755813887) HT_.o ?_; refine pv_ 39 52 1099511627775 HT_.o ?_
        refine done_ (done_of HT_.o (by kernel_rfl)) ?_
        try go_wp2
        go_ret
        exact ⟨rt_, be_ HB.o⟩
      ·replace c6 := Bool.eq_false_iff.mpr c6; subst c6; rw [if_neg nft_] at H; obtain rfl := Option.some.inj H
       try go_wp2
       replace HB := q_ (below_drew1 HB.o)
       have p101 : 0 ≤ (x3_1 : Int) := of_decide_eq_true as_
       have q101 : x3_1 < (l0.length : Int) := of_decide_eq_true as_
       obtain ⟨ad101, e101, hx101_0, hx101_1⟩ := at_T67 HR0.o x3_1 p101 q101; have hw101_1 := hx101_1; have hw101_0 := hx101_0
       cases e101
       replace hx101_0 := mv_ HB.o hx101_0; replace hx101_1 := mv_ HB.o hx101_1; replace p101 := eq_true p101; replace q101 := eq_true q101
       refine start_ (n := 40) (S := fun w' => w'.cell? (ad101.add ((x3_1).toNat * 2)) = some (.int .i64 ((rd_T67 l0 x3_1).f0)) ∧ w'.cell? ⟨(ad101.add ((x3_1).toNat * 2)).block, (ad101.add ((x3_1).toNat * 2)).off + 1, none⟩ = some (.int .i64 ((rd_T67 l0 x3_1).f1))) (ds := []) (bb 40 0) (by kernel_rfl) rfl rfl ⟨(mv_ HB.o hw101_0), (mv_ HB.o hw101_1)⟩ (fun hHeld => ?_); refine with_tabW spec_ClassOk.tab6 spec_ClassOk.bits6 (fun HT_ HW_ => ?_)
       generalize wr.drew = w18 at HB hx101_0 hx101_1 hHeld ⊢
       refine pv_ 0 13 1 HT_.o ?_; refine pv_ 1 14 3 HT_.o ?_; refine pv_ 2 15 7 HT_.o ?_; refine pv_ 3 16 15 HT_.o ?_; refine tv_ 4 17 31 HT_.o HW_.o hHeld ?_
       refine one_ (i := 5) (N := some 18) (bb 40 63) rfl rfl (one_of HT_.o (by kernel_rfl)) (by decide) (fun K hK => ?_)
       refine gs_ Tryz.func51 #[.int .i64 ((rd_T67 l0 x3_1).f0), .int .i64 0, .int .i64 255] ?_
       with_reducible refine (spec_l1In.calls ((rd_T67 l0 x3_1).f0) 0 255 false _ A5.o).mono ?_
       rintro e w' ⟨rfl, ⟨nd, rfl⟩⟩; refine ⟨_, rfl, ?_⟩
       refine hK.out _ _ ⟨(mv_ HB.o hw101_0), (mv_ HB.o hw101_1)⟩ (fun hHeld => ?_)
       clear hK K; refine no_ (some 18) ?_; refine pv_ 6 19 127 HT_.o ?_; refine pv_ 7 20 255 HT_.o ?_; refine pw_ 8 (some 21) (bb 40 511) HT_.o ?_; refine pw_ 9 (some 22) (bb 40 1023) HT_.o ?_; refine pw_ 10 (some 23) (bb 40 2047) HT_.o ?_; refine pw_ 11 (some 24) (bb 40 4095) HT_.o ?_; refine pw_ 12 (some 25) (bb 40 8191) HT_.o ?_; refine pw_ 13 (some 26) (bb 40 16383) HT_.o ?_; refine pw_ 14 (some 27) (bb 40 32767) HT_.o ?_; refine pw_ 15 (some 28) (bb 40 65535) HT_.o ?_; refine pw_ 16 (some 29) (bb 40 131071) HT_.o ?_; refine pw_ 17 (some 30) (bb 40 262143) HT_.o ?_; refine pw_ 18 (some 31) (bb 40 524287) HT_.o ?_; refine pw_ 19 (some 32) (bb 40 1048575) HT_.o ?_; refine pv_ 20 33 2097151 HT_.o ?_; refine pv_ 21 34 4194303 HT_.o ?_; refine pw_ 22 (some 35) (bb 40 8388607) HT_.o ?_; refine pw_ 23 (some 36) (bb 40 16777215) HT_.o ?_; refine pw_ 24 (some 37) (bb 40 33554431) HT_.o ?_; refine pw_ 25 (some 38) (bb 40 67108863) HT_.o ?_; refine pw_ 26 (some 39) (bb 40 134217727) HT_.o ?_; refine pw_ 27 (some 40) (bb 40 268435455) HT_.o ?_; refine pw_ 28 (some 41) (bb 40 536870911) HT_.o ?_; refine pw_ 29 (some 42) (bb 40 1073741823) HT_.o ?_; refine pw_ 30 (some 43) (bb 40 2147483647) HT_.o ?_; refine pw_ 31 (some 44) (bb 40 4294967295) HT_.o ?_; refine pw_ 32 (some 45) (bb 40 8589934591) HT_.o ?_; refine pw_ 33 (some 46) (bb 40 17179869183) HT_.o ?_; refine pw_ 34 (some 47) (bb 40 34359738367) HT_.o ?_; refine pw_ 35 (some 48) (bb 40 68719476735) HT_.o ?_; refine pw_ 36 (some 49) (bb 40 137438953471) HT_.o ?_; refine pw_ 37 (some 50) (bb 40 274877906943) HT_.o ?_; refine pw_ 38 (some 51) (bb 40 549755813887) HT_.o ?_; refine pv_ 39 52 1099511627775 HT_.o ?_
       refine done_ (done_of HT_.o (by kernel_rfl)) ?_
       try go_wp2
       go_ret
       exact ⟨rt_, be_ HB.o⟩
     ·rw [if_neg c4] at H
      exact absurd H (by simp)
    ·rw [if_neg c3] at H; have c3b0 := df_ c3; clear c3; obtain rfl := Option.some.inj H
     go_wp2
     go_ret
     exact ⟨rt_, be_ HB.o⟩
/-! ### spec_l3Kids: function 99 -/
def spec_l3Kids.j0 : Nat → Int → Bool → Option (Int)
 | 0, _, _ => none
 | k + 1, x3, x4 => if x4 = true then (some 2) else (if x3 = 5 then (some 1) else (if x3 = 6 then (some 1) else (if x3 = 7 then (some 1) else (if x3 = 8 then (some 1) else (some 0)))))
def spec_l3Kids.f (k : Nat) (a0 : Int) : Option (Int) := if a0 = 3 then (spec_l3Kids.j0 k a0 (a0 == 3)) else (spec_l3Kids.j0 k a0 (a0 == 4))
theorem spec_l3Kids.calls (k : Nat) (a0 : Int) (r : Int) (w : World) (h : spec_l3Kids.f k a0 = some r) :
  Calls Tryz.prog 99 #[.int .i64 a0] w fun e w' => e = .returned (.int .i64 r) ∧ Drawn0 w w' := by
 have H : (if a0 = 3 then (spec_l3Kids.j0 k a0 (a0 == 3)) else (spec_l3Kids.j0 k a0 (a0 == 4))) = some r := h
 clear h; have HC2 := q_ H; clear H
 go_enter Tryz.func99, Tryz.ntmps99
 go_upto_if 4 with (fail)
 go_cut [4] (fun v4 wc => ∃ (kq : Nat) (x4_1 : Bool), v4 = .bool x4_1 ∧ J0 (spec_l3Kids.j0 kq a0 x4_1 = some r) ∧ J0 (kq ≤ k) ∧ Drawn0 w wc)
 case first =>
  have H := HC2.o; clear HC2
  by_cases c3 : a0 = 3
  ·rw [if_pos c3] at H
   have c3b0 : (a0 == 3) = true := beq_iff_eq.mpr c3
   have c3b1 : (a0 != 3) = false := bne_eq_false_iff_eq.mpr c3
   clear c3
   (first | rw [c3b0] | (simp only [i64_w, i32_w]; rw [c3b0]) | skip)
   have H' := q_ H
   clear H
   go_wp2
   go_meet
   case rel => exact ⟨_, ((a0 == 3)), rs_, H', ⟨by first | omega | exact Nat.le_refl _⟩, by repeat (first | exact Drawn0.refl _ | apply Drawn0.step)⟩
  ·rw [if_neg c3] at H
   have c3b0 : (a0 == 3) = false := beq_eq_false_iff_ne.mpr c3
   have c3b1 : (a0 != 3) = true := bne_iff_ne.mpr c3
   (first | rw [c3b0] | (simp only [i64_w, i32_w]; rw [c3b0]) | skip)
   have H' := q_ H
   clear H
   go_wp2
   go_meet
   case rel => exact ⟨_, ((a0 == 4)), rs_, H', ⟨by first | omega | exact Nat.le_refl _⟩, by repeat (first | exact Drawn0.refl _ | apply Drawn0.step)⟩
 case rest =>
  clear HC2; (try clear c3); (try clear c3b0); (try clear c3b1)
  obtain ⟨kq, x4_1, rfl, HA, HJ1, ⟨mc1, rfl⟩⟩ := hcut
  cases kq with
  | zero => exact absurd HA.o (by simp [spec_l3Kids.j0])
  | succ kj1 =>
   have H := HA.o; clear HA
   simp only [spec_l3Kids.j0] at H
   by_cases c4 : x4_1 = true
   ·subst c4; rw [if_pos rfl] at H; obtain rfl := Option.some.inj H
    go_wp2
    go_ret
    exact ⟨by first | rfl | (simp; done) | (simp [*]; done), by repeat (first | exact Drawn0.refl _ | apply Drawn0.step)⟩
   ·replace c4 := Bool.eq_false_iff.mpr c4; subst c4; rw [if_neg nft_] at H
    by_cases c5 : a0 = 5
    ·rw [if_pos c5] at H
     have c5b0 : (a0 == 5) = true := beq_iff_eq.mpr c5
     have c5b1 : (a0 != 5) = false := bne_eq_false_iff_eq.mpr c5
     clear c5; obtain rfl := Option.some.inj H
     go_wp2
     go_ret
     exact ⟨by first | rfl | (simp; done) | (simp [*]; done), by repeat (first | exact Drawn0.refl _ | apply Drawn0.step)⟩
    ·rw [if_neg c5] at H
     have c5b0 : (a0 == 5) = false := beq_eq_false_iff_ne.mpr c5
     have c5b1 : (a0 != 5) = true := bne_iff_ne.mpr c5
     by_cases c6 : a0 = 6
     ·rw [if_pos c6] at H
      have c6b0 : (a0 == 6) = true := beq_iff_eq.mpr c6
      have c6b1 : (a0 != 6) = false := bne_eq_false_iff_eq.mpr c6
      clear c6; obtain rfl := Option.some.inj H
      go_wp2
      go_ret
      exact ⟨by first | rfl | (simp; done) | (simp [*]; done), by repeat (first | exact Drawn0.refl _ | apply Drawn0.step)⟩
     ·rw [if_neg c6] at H
      have c6b0 : (a0 == 6) = false := beq_eq_false_iff_ne.mpr c6
      have c6b1 : (a0 != 6) = true := bne_iff_ne.mpr c6
      by_cases c7 : a0 = 7
      ·rw [if_pos c7] at H
       have c7b0 : (a0 == 7) = true := beq_iff_eq.mpr c7
       have c7b1 : (a0 != 7) = false := bne_eq_false_iff_eq.mpr c7
       clear c7; obtain rfl := Option.some.inj H
       go_wp2
       go_ret
       exact ⟨by first | rfl | (simp; done) | (simp [*]; done), by repeat (first | exact Drawn0.refl _ | apply Drawn0.step)⟩
      ·rw [if_neg c7] at H
       have c7b0 : (a0 == 7) = false := beq_eq_false_iff_ne.mpr c7
       have c7b1 : (a0 != 7) = true := bne_iff_ne.mpr c7
       by_cases c8 : a0 = 8
       ·rw [if_pos c8] at H
        have c8b0 : (a0 == 8) = true := beq_iff_eq.mpr c8
        have c8b1 : (a0 != 8) = false := bne_eq_false_iff_eq.mpr c8
        clear c8; obtain rfl := Option.some.inj H
        go_wp2
        go_ret
        exact ⟨by first | rfl | (simp; done) | (simp [*]; done), by repeat (first | exact Drawn0.refl _ | apply Drawn0.step)⟩
       ·rw [if_neg c8] at H
        have c8b0 : (a0 == 8) = false := beq_eq_false_iff_ne.mpr c8
        have c8b1 : (a0 != 8) = true := bne_iff_ne.mpr c8
        obtain rfl := Option.some.inj H
        go_wp2
        go_ret
        exact ⟨by first | rfl | (simp; done) | (simp [*]; done), by repeat (first | exact Drawn0.refl _ | apply Drawn0.step)⟩
/-! ### spec_l3Node: function 80 -/
mutual
def spec_l3Node.j0 : Nat → Int → Bool → Int → List (S67) → List Int → Int → Int → Option (Bool)
 | 0, _, _, _, _, _, _, _ => none
 | k + 1, x1, x18, x102000, x102001, x102002, x102003, x102004 => if x18 = true then (some false) else (spec_l3Node.l0 k x1 0 x102000 x102001 x102002 x102003 x102004)
def spec_l3Node.l0 : Nat → Int → Int → Int → List (S67) → List Int → Int → Int → Option (Bool)
 | 0, _, _, _, _, _, _, _ => none
 | k + 1, x1, x5, x102000, x102001, x102002, x102003, x102004 => if x5 < (x102002.length : Int) then (if 0 ≤ x5 then ((spec_l1In.f (rd x102002 x5) 0 (wrap64 (x1 - 1))).bind fun t105 => (if t105 = true then (spec_l3Node.l0 k x1 (wrap64 (x5 + 1)) x102000 x102001 x102002 x102003 x102004) else (some false))) else (none)) else (if x102000 = 2 then ((spec_ClassOk.f k x102001).bind fun t106 => (if t106 = true then (if (x102001.length : Int) = 0 then (spec_l3Node.j2 k true x102000 x102001 x102002 x102003 x102004) else (spec_l3Node.j2 k false x102000 x102001 x102002 x102003 x102004)) else (spec_l3Node.j2 k true x102000 x102001 x102002 x102003 x102004))) else (spec_l3Node.j2 k (decide ((x102001.length : Int) > 0)) x102000 x102001 x102002 x102003 x102004))
def spec_l3Node.j2 : Nat → Bool → Int → List (S67) → List Int → Int → Int → Option (Bool)
 | 0, _, _, _, _, _, _ => none
 | k + 1, x60, x102000, x102001, x102002, x102003, x102004 => if x60 = true then (some false) else (if x102000 = 8 then ((spec_l1In.f x102003 0 30).bind fun t107 => (if t107 = true then (if x102004 = (-1) then (some true) else ((spec_l1In.f x102004 (mx 1 x102003) 30).bind fun t108 => (some t108))) else (some false))) else (if x102003 = 0 then (some (x102004 == 0)) else (some false)))
end
def spec_l3Node.f (k : Nat) (a0_0 : Int) (l0_1 : List (S67)) (l0_2 : List Int) (a0_3 : Int) (a0_4 : Int) (a1 : Int) : Option (Bool) := (spec_l1In.f a0_0 1 8).bind fun t102 => (if t102 = true then ((spec_l3Kids.f k a0_0).bind fun t103 => (spec_l3Node.j0 k a1 ((l0_2.length : Int) != t103) a0_0 l0_1 l0_2 a0_3 a0_4)) else (spec_l3Node.j0 k a1 true a0_0 l0_1 l0_2 a0_3 a0_4))
theorem spec_l3Node.calls (k : Nat) (a0_0 : Int) (A0_1 : Option Addr) (c0_1 : Nat) (l0_1 : List (S67)) (A0_2 : Option Addr) (c0_2 : Nat) (l0_2 : List Int) (a0_3 : Int) (a0_4 : Int) (a1 : Int) (r : Bool) (w : World) (hr0_1 : Kd.C k67 w A0_1 l0_1.length l0_1) (hc0_1 : l0_1.length ≤ c0_1) (hr0_2 : Kd.C (Kd.int .i64) w A0_2 l0_2.length l0_2) (hc0_2 : l0_2.length ≤ c0_2) (h : spec_l3Node.f k a0_0 l0_1 l0_2 a0_3 a0_4 a1 = some r) :
  Calls Tryz.prog 80 #[.agg #[.int .i64 a0_0, .slice A0_1 l0_1.length c0_1, .slice A0_2 l0_2.length c0_2, .int .i64 a0_3, .int .i64 a0_4], .int .i64 a1] w fun e w' => e = .returned (.bool r) ∧ Below w.heap.size w w' := by
 have hu121 := Tryz.underlying121; have HR0_1 := q_ hr0_1; have HC0_1 := q_ hc0_1; clear hr0_1 hc0_1; have HR0_2 := q_ hr0_2; have HC0_2 := q_ hc0_2; clear hr0_2 hc0_2; have HB := q_ (Below.refl w.heap.size w)
 have H : ((spec_l1In.f a0_0 1 8).bind fun t102 => (if t102 = true then ((spec_l3Kids.f k a0_0).bind fun t103 => (spec_l3Node.j0 k a1 ((l0_2.length : Int) != t103) a0_0 l0_1 l0_2 a0_3 a0_4)) else (spec_l3Node.j0 k a1 true a0_0 l0_1 l0_2 a0_3 a0_4))) = some r := h
 clear h; have HC3 := q_ H; clear H
 go_enter Tryz.func80, Tryz.ntmps80
 go_upto_region 1 with (((with_reducible refine gate_dst (N := 2) rfl ?_); (try (refine gate_guard (by rfl) ?_; dsimp only)); refine bx_ 2 #[.int .i64 a0_0, .slice A0_1 l0_1.length c0_1, .slice A0_2 l0_2.length c0_2, .int .i64 a0_3, .int .i64 a0_4] 121 ?_; intro gb101 hg w4 hbox hb; have BK101 := q_ (hbox); have GE101 := ge_ hg HB; replace HB := sb_ HB hb; clear hb hbox hg))
 repeat (go_quiet (fail); go_upto_region 1 with (fail))
 (try simp only [Act.put, List.setIfInBounds_toArray, List.set_cons_zero, List.set_cons_succ])
 go_cut [18] (fun v18 wc => ∃ (kq : Nat) (x18_2 : Bool), v18 = .bool x18_2 ∧ J0 (spec_l3Node.j0 kq a1 x18_2 a0_0 l0_1 l0_2 a0_3 a0_4 = some r) ∧ J0 (kq ≤ k) ∧ J0 (wc.heap[gb101]? = some (.cells #[.int .i64 a0_0, (.slice A0_1 l0_1.length c0_1), (.slice A0_2 l0_2.length c0_2), .int .i64 a0_3, .int .i64 a0_4] 121 (0, 0))) ∧ J0 (Below w.heap.size w wc))
 case first =>
  have H := HC3.o; clear HC3; obtain ⟨t102, A5, H⟩ := ob_ H
  by_cases c6 : t102 = true
  ·subst c6; rw [if_pos rfl] at H; obtain ⟨t103, A7, H⟩ := ob_ H
   have H' := q_ H
   clear H; obtain ⟨hcz8_0, hcz8_1, hcz8_2, hcz8_3, hcz8_4, hfz8_0, hfz8_1, hfz8_2, hfz8_3, hfz8_4⟩ := d5_ BK101
   go_wp2_with (fail)
   repeat (go_quiet (first | (go_at_call 51; (with_reducible refine (spec_l1In.calls a0_0 1 8 true _ A5.o).mono ?_); rintro e w' ⟨rfl, ⟨nd, rfl⟩⟩; (try first | exact ⟨rfl, _, World.drewN_drewN _ _ _⟩ | exact ⟨rfl, _, Eq.trans (World.drewN_drewN _ _ _) (congrArg (World.drewN _) (Nat.add_assoc _ _ _))⟩)) | (go_at_call 99; (with_reducible refine (spec_l3Kids.calls k a0_0 t103 _ A7.o).mono ?_); rintro e w' ⟨rfl, ⟨nd, rfl⟩⟩; (try first | exact ⟨rfl, _, World.drewN_drewN _ _ _⟩ | exact ⟨rfl, _, Eq.trans (World.drewN_drewN _ _ _) (congrArg (World.drewN _) (Nat.add_assoc _ _ _))⟩))); try go_wp2_with (fail))
   go_meet
   case rel => exact ⟨_, (((l0_2.length : Int) != t103)), rs_, H', ⟨by first | omega | exact Nat.le_refl _⟩, ⟨bk_ BK101.o⟩, ⟨be1_ HB.o GE101.o⟩⟩
  ·replace c6 := Bool.eq_false_iff.mpr c6; subst c6; rw [if_neg nft_] at H
   have H' := q_ H
   clear H; obtain ⟨hcz9_0, hcz9_1, hcz9_2, hcz9_3, hcz9_4, hfz9_0, hfz9_1, hfz9_2, hfz9_3, hfz9_4⟩ := d5_ BK101
   go_wp2_with (fail)
   repeat (go_quiet ((go_at_call 51; (with_reducible refine (spec_l1In.calls a0_0 1 8 false _ A5.o).mono ?_); rintro e w' ⟨rfl, ⟨nd, rfl⟩⟩; (try first | exact ⟨rfl, _, World.drewN_drewN _ _ _⟩ | exact ⟨rfl, _, Eq.trans (World.drewN_drewN _ _ _) (congrArg (World.drewN _) (Nat.add_assoc _ _ _))⟩))); try go_wp2_with (fail))
   go_meet
   case rel => exact ⟨_, (true), rs_, H', ⟨by first | omega | exact Nat.le_refl _⟩, ⟨bk_ BK101.o⟩, ⟨be1_ HB.o GE101.o⟩⟩
 case rest =>
  clear HC3; (try clear c6); (try clear hcz8_0); (try clear hcz8_1); (try clear hcz8_2); (try clear hcz8_3); (try clear hcz8_4); (try clear hcz9_0); (try clear hcz9_1); (try clear hcz9_2); (try clear hcz9_3); (try clear hcz9_4); (try clear hfz8_0); (try clear hfz8_1); (try clear hfz8_2); (try clear hfz8_3); (try clear hfz8_4); (try clear hfz9_0); (try clear hfz9_1); (try clear hfz9_2); (try clear hfz9_3); (try clear hfz9_4); obtain ⟨kq, x18_2, rfl, HA, HJ2, BK101, HB⟩ := hcut
  cases kq with
  | zero => exact absurd HA.o (by simp [spec_l3Node.j0])
  | succ kj2 =>
   have H := HA.o; clear HA
   simp only [spec_l3Node.j0] at H
   by_cases c10 : x18_2 = true
   ·subst c10; rw [if_pos rfl] at H; obtain rfl := Option.some.inj H
    go_wp2
    repeat (go_quiet (fail); try go_wp2)
    go_ret
    exact ⟨rt_, be1_ HB.o GE101.o⟩
   ·replace c10 := Bool.eq_false_iff.mpr c10; subst c10; rw [if_neg nft_] at H
    have H' := q_ H
    clear H
    go_wp2
    repeat (go_quiet (fail); try go_wp2)
    go_loopg [5] kj2 (fun kq v5 w' => ∃ (x5_2 : Int), v5 = .int .i64 x5_2 ∧ J0 (spec_l3Node.l0 kq a1 x5_2 a0_0 l0_1 l0_2 a0_3 a0_4 = some r) ∧ J0 (kq ≤ kj2) ∧ J0 (w'.heap[gb101]? = some (.cells #[.int .i64 a0_0, (.slice A0_1 l0_1.length c0_1), (.slice A0_2 l0_2.length c0_2), .int .i64 a0_3, .int .i64 a0_4] 121 (0, 0))) ∧ J0 (Below w.heap.size w w'))
    case atStart => exact ⟨(0), rs_, H', ⟨Nat.le_refl _⟩, ⟨bk_ BK101.o⟩, ⟨be1_ HB.o GE101.o⟩⟩
    case round =>
     clear H'; (try clear c6); (try clear c10); (try clear hcz8_0); (try clear hcz8_1); (try clear hcz8_2); (try clear hcz8_3); (try clear hcz8_4); (try clear hcz9_0); (try clear hcz9_1); (try clear hcz9_2); (try clear hcz9_3); (try clear hcz9_4); (try clear hfz8_0); (try clear hfz8_1); (try clear hfz8_2); (try clear hfz8_3); (try clear hfz8_4); (try clear hfz9_0); (try clear hfz9_1); (try clear hfz9_2); (try clear hfz9_3); (try clear hfz9_4); obtain ⟨x5_2, rfl, HA, HK2, BK101, HB⟩ := hrel
     cases gk with
     | zero => exact absurd HA.o (by simp [spec_l3Node.l0])
     | succ k2 =>
      have H := HA.o; clear HA
      simp only [spec_l3Node.l0] at H
      by_cases c11 : x5_2 < (l0_2.length : Int)
      ·rw [if_pos c11] at H; have c11b0 := dt_ c11; clear c11
       by_cases c12 : 0 ≤ x5_2
       ·rw [if_pos c12] at H; have c12b0 := dt_ c12; clear c12; obtain ⟨t105, A13, H⟩ := ob_ H
        by_cases c14 : t105 = true
        ·subst c14; rw [if_pos rfl] at H
         have H' := q_ H
         clear H; obtain ⟨hcz15_0, hcz15_1, hcz15_2, hcz15_3, hcz15_4, hfz15_0, hfz15_1, hfz15_2, hfz15_3, hfz15_4⟩ := d5_ BK101
         have p104 : 0 ≤ (x5_2 : Int) := of_decide_eq_true as_
         have q104 : x5_2 < (l0_2.length : Int) := of_decide_eq_true as_
         obtain ⟨ad104, e104, hx104_0⟩ := Kd.at_int HR0_2.o x5_2 p104 q104
         cases e104
         replace hx104_0 := mv_ HB.o hx104_0; replace p104 := eq_true p104; replace q104 := eq_true q104
         go_wp2_with ((go_at_call 51; (with_reducible refine (spec_l1In.calls (rd l0_2 x5_2) 0 (wrap64 (a1 - 1)) true _ A13.o).mono ?_); rintro e w' ⟨rfl, ⟨nd, rfl⟩⟩; (try first | exact ⟨rfl, _, World.drewN_drewN _ _ _⟩ | exact ⟨rfl, _, Eq.trans (World.drewN_drewN _ _ _) (congrArg (World.drewN _) (Nat.add_assoc _ _ _))⟩)))
         repeat (go_quiet (fail); try go_wp2_with (fail))
         go_roundg k2
         case measure => have := HJ2.o; have := HK2.o; omega
         case rel => exact ⟨(wrap64 (x5_2 + 1)), rs_, H', ⟨by have := HJ2.o; have := HK2.o; omega⟩, ⟨bk_ BK101.o⟩, ⟨be1_ HB.o GE101.o⟩⟩
        ·replace c14 := Bool.eq_false_iff.mpr c14; subst c14; rw [if_neg nft_] at H; obtain rfl := Option.some.inj H; obtain ⟨hcz16_0, hcz16_1, hcz16_2, hcz16_3, hcz16_4, hfz16_0, hfz16_1, hfz16_2, hfz16_3, hfz16_4⟩ := d5_ BK101
         have p104 : 0 ≤ (x5_2 : Int) := of_decide_eq_true as_
         have q104 : x5_2 < (l0_2.length : Int) := of_decide_eq_true as_
         obtain ⟨ad104, e104, hx104_0⟩ := Kd.at_int HR0_2.o x5_2 p104 q104
         cases e104
         replace hx104_0 := mv_ HB.o hx104_0; replace p104 := eq_true p104; replace q104 := eq_true q104
         go_wp2_with ((go_at_call 51; (with_reducible refine (spec_l1In.calls (rd l0_2 x5_2) 0 (wrap64 (a1 - 1)) false _ A13.o).mono ?_); rintro e w' ⟨rfl, ⟨nd, rfl⟩⟩; (try first | exact ⟨rfl, _, World.drewN_drewN _ _ _⟩ | exact ⟨rfl, _, Eq.trans (World.drewN_drewN _ _ _) (congrArg (World.drewN _) (Nat.add_assoc _ _ _))⟩)))
         repeat (go_quiet (fail); try go_wp2_with (fail))
         go_ret
         exact ⟨rt_, be1_ HB.o GE101.o⟩
       ·rw [if_neg c12] at H
        exact absurd H (by simp)
      ·rw [if_neg c11] at H; have c11b0 := df_ c11; clear c11; have HC17 := q_ H; clear H; obtain ⟨hcz18_0, hcz18_1, hcz18_2, hcz18_3, hcz18_4, hfz18_0, hfz18_1, hfz18_2, hfz18_3, hfz18_4⟩ := d5_ BK101
       go_upto_region 8 with (fail)
       repeat (go_quiet (fail); go_upto_region 8 with (fail))
       go_cut [60] (fun v60 wc => ∃ (kq : Nat) (x60_16 : Bool), v60 = .bool x60_16 ∧ J0 (spec_l3Node.j2 kq x60_16 a0_0 l0_1 l0_2 a0_3 a0_4 = some r) ∧ J0 (kq ≤ k2) ∧ J0 (wc.heap[gb101]? = some (.cells #[.int .i64 a0_0, (.slice A0_1 l0_1.length c0_1), (.slice A0_2 l0_2.length c0_2), .int .i64 a0_3, .int .i64 a0_4] 121 (0, 0))) ∧ J0 (Below w.heap.size w wc))
       case first =>
        have H := HC17.o; clear HC17
        by_cases c19 : a0_0 = 2
        ·rw [if_pos c19] at H
         have c19b0 : (a0_0 == 2) = true := beq_iff_eq.mpr c19
         have c19b1 : (a0_0 != 2) = false := bne_eq_false_iff_eq.mpr c19
         clear c19
         (first | rw [c19b0] | (simp only [i64_w, i32_w]; rw [c19b0]) | skip)
         obtain ⟨t106, A20, H⟩ := ob_ H
         by_cases c21 : t106 = true
         ·subst c21; rw [if_pos rfl] at H
          by_cases c22 : (l0_1.length : Int) = 0
          ·rw [if_pos c22] at H
           have c22b0 : ((l0_1.length : Int) == 0) = true := beq_iff_eq.mpr c22
           have c22b1 : ((l0_1.length : Int) != 0) = false := bne_eq_false_iff_eq.mpr c22
           clear c22
           have H' := q_ H
           clear H; obtain ⟨hcz23_0, hcz23_1, hcz23_2, hcz23_3, hcz23_4, hfz23_0, hfz23_1, hfz23_2, hfz23_3, hfz23_4⟩ := d5_ BK101
           go_wp2_with ((go_at_call 77; (with_reducible refine (spec_ClassOk.calls k2 _ _ l0_1 true _ ?side1 ?side2 A20.o).mono ?_); (case side1 => exact Kd.C_below HR0_1.o (be_ HB.o)); (case side2 => exact HC0_1.o); rintro e w24 ⟨rfl, hb⟩; replace BK101 := lb_ BK101 hb; replace HB := sb1_ HB GE101 hb; (try clear hb); obtain ⟨hcz25_0, hcz25_1, hcz25_2, hcz25_3, hcz25_4, hfz25_0, hfz25_1, hfz25_2, hfz25_3, hfz25_4⟩ := d5_ BK101))
           repeat (go_quiet (fail); try go_wp2_with (fail))
           go_meet
           case rel => exact ⟨_, (true), rs_, H', ⟨by have := HJ2.o; have := HK2.o; first | omega | exact Nat.le_refl _⟩, ⟨bk_ BK101.o⟩, ⟨be1_ HB.o GE101.o⟩⟩
          ·rw [if_neg c22] at H
           have c22b0 : ((l0_1.length : Int) == 0) = false := beq_eq_false_iff_ne.mpr c22
           have c22b1 : ((l0_1.length : Int) != 0) = true := bne_iff_ne.mpr c22
           have c22b2 : ¬ (l0_1 = []) := fun h_ => c22 (by rw [h_]; rfl)
           have H' := q_ H
           clear H; obtain ⟨hcz26_0, hcz26_1, hcz26_2, hcz26_3, hcz26_4, hfz26_0, hfz26_1, hfz26_2, hfz26_3, hfz26_4⟩ := d5_ BK101
           go_wp2_with ((go_at_call 77; (with_reducible refine (spec_ClassOk.calls k2 _ _ l0_1 true _ ?side1 ?side2 A20.o).mono ?_); (case side1 => exact Kd.C_below HR0_1.o (be_ HB.o)); (case side2 => exact HC0_1.o); rintro e w27 ⟨rfl, hb⟩; replace BK101 := lb_ BK101 hb; replace HB := sb1_ HB GE101 hb; (try clear hb); obtain ⟨hcz28_0, hcz28_1, hcz28_2, hcz28_3, hcz28_4, hfz28_0, hfz28_1, hfz28_2, hfz28_3, hfz28_4⟩ := d5_ BK101))
           repeat (go_quiet (fail); try go_wp2_with (fail))
           go_meet
           case rel => exact ⟨_, (false), rs_, H', ⟨by have := HJ2.o; have := HK2.o; first | omega | exact Nat.le_refl _⟩, ⟨bk_ BK101.o⟩, ⟨be1_ HB.o GE101.o⟩⟩
         ·replace c21 := Bool.eq_false_iff.mpr c21; subst c21; rw [if_neg nft_] at H
          have H' := q_ H
          clear H; obtain ⟨hcz29_0, hcz29_1, hcz29_2, hcz29_3, hcz29_4, hfz29_0, hfz29_1, hfz29_2, hfz29_3, hfz29_4⟩ := d5_ BK101
          go_wp2_with ((go_at_call 77; (with_reducible refine (spec_ClassOk.calls k2 _ _ l0_1 false _ ?side1 ?side2 A20.o).mono ?_); (case side1 => exact Kd.C_below HR0_1.o (be_ HB.o)); (case side2 => exact HC0_1.o); rintro e w30 ⟨rfl, hb⟩; replace BK101 := lb_ BK101 hb; replace HB := sb1_ HB GE101 hb; (try clear hb)))
          repeat (go_quiet (fail); try go_wp2_with (fail))
          go_meet
          case rel => exact ⟨_, (true), rs_, H', ⟨by have := HJ2.o; have := HK2.o; first | omega | exact Nat.le_refl _⟩, ⟨bk_ BK101.o⟩, ⟨be1_ HB.o GE101.o⟩⟩
        ·rw [if_neg c19] at H
         have c19b0 : (a0_0 == 2) = false := beq_eq_false_iff_ne.mpr c19
         have c19b1 : (a0_0 != 2) = true := bne_iff_ne.mpr c19
         (first | rw [c19b0] | (simp only [i64_w, i32_w]; rw [c19b0]) | skip)
         have H' := q_ H
         clear H; obtain ⟨hcz31_0, hcz31_1, hcz31_2, hcz31_3, hcz31_4, hfz31_0, hfz31_1, hfz31_2, hfz31_3, hfz31_4⟩ := d5_ BK101
         go_wp2
         repeat (go_quiet (fail); try go_wp2)
         go_meet
         case rel => exact ⟨_, (decide ((l0_1.length : Int) > 0)), rs_, H', ⟨by have := HJ2.o; have := HK2.o; first | omega | exact Nat.le_refl _⟩, ⟨bk_ BK101.o⟩, ⟨be1_ HB.o GE101.o⟩⟩
       case rest =>
        clear HC17; (try clear c6); (try clear c10); (try clear c11); (try clear c11b0); (try clear c12); (try clear c12b0); (try clear c14); (try clear c19); (try clear c19b0); (try clear c19b1); (try clear c21); (try clear c22); (try clear c22b0); (try clear c22b1); (try clear c22b2); (try clear hcz15_0); (try clear hcz15_1); (try clear hcz15_2); (try clear hcz15_3); (try clear hcz15_4); (try clear hcz16_0); (try clear hcz16_1); (try clear hcz16_2); (try clear hcz16_3); (try clear hcz16_4); (try clear hcz18_0); (try clear hcz18_1); (try clear hcz18_2); (try clear hcz18_3); (try clear hcz18_4); (try clear hcz23_0); (try clear hcz23_1); (try clear hcz23_2); (try clear hcz23_3); (try clear hcz23_4); (try clear hcz25_0); (try clear hcz25_1); (try clear hcz25_2); (try clear hcz25_3); (try clear hcz25_4); (try clear hcz26_0); (try clear hcz26_1); (try clear hcz26_2); (try clear hcz26_3); (try clear hcz26_4); (try clear hcz28_0); (try clear hcz28_1); (try clear hcz28_2); (try clear hcz28_3); (try clear hcz28_4); (try clear hcz29_0); (try clear hcz29_1); (try clear hcz29_2); (try clear hcz29_3); (try clear hcz29_4); (try clear hcz31_0); (try clear hcz31_1); (try clear hcz31_2); (try clear hcz31_3); (try clear hcz31_4); (try clear hcz8_0); (try clear hcz8_1); (try clear hcz8_2); (try clear hcz8_3); (try clear hcz8_4); (try clear hcz9_0); (try clear hcz9_1); (try clear hcz9_2); (try clear hcz9_3); (try clear hcz9_4); (try clear hfz15_0); (try clear hfz15_1); (try clear hfz15_2); (try clear hfz15_3); (try clear hfz15_4); (try clear hfz16_0); (try clear hfz16_1); (try clear hfz16_2); (try clear hfz16_3); (try clear hfz16_4); (try clear hfz18_0); (try clear hfz18_1); (try clear hfz18_2); (try clear hfz18_3); (try clear hfz18_4); (try clear hfz23_0); (try clear hfz23_1); (try clear hfz23_2); (try clear hfz23_3); (try clear hfz23_4); (try clear hfz25_0); (try clear hfz25_1); (try clear hfz25_2); (try clear hfz25_3); (try clear hfz25_4); (try clear hfz26_0); (try clear hfz26_1); (try clear hfz26_2); (try clear hfz26_3); (try clear hfz26_4); (try clear hfz28_0); (try clear hfz28_1); (try clear hfz28_2); (try clear hfz28_3); (try clear hfz28_4); (try clear hfz29_0); (try clear hfz29_1); (try clear hfz29_2); (try clear hfz29_3); (try clear hfz29_4); (try clear hfz31_0); (try clear hfz31_1); (try clear hfz31_2); (try clear hfz31_3); (try clear hfz31_4); (try clear hfz8_0); (try clear hfz8_1); (try clear hfz8_2); (try clear hfz8_3); (try clear hfz8_4); (try clear hfz9_0); (try clear hfz9_1); (try clear hfz9_2); (try clear hfz9_3); (try clear hfz9_4); (try clear hx104_0); (try clear p104); (try clear q104); obtain ⟨kq, x60_16, rfl, HA, HJ16, BK101, HB⟩ := hcut
        cases kq with
        | zero => exact absurd HA.o (by simp [spec_l3Node.j2])
        | succ kj16 =>
         have H := HA.o; clear HA
         simp only [spec_l3Node.j2] at H
         by_cases c32 : x60_16 = true
         ·subst c32; rw [if_pos rfl] at H; obtain rfl := Option.some.inj H
          go_wp2
          repeat (go_quiet (fail); try go_wp2)
          go_ret
          exact ⟨rt_, be1_ HB.o GE101.o⟩
         ·replace c32 := Bool.eq_false_iff.mpr c32; subst c32; rw [if_neg nft_] at H
          by_cases c33 : a0_0 = 8
          ·rw [if_pos c33] at H
           have c33b0 : (a0_0 == 8) = true := beq_iff_eq.mpr c33
           have c33b1 : (a0_0 != 8) = false := bne_eq_false_iff_eq.mpr c33
           clear c33; obtain ⟨t107, A34, H⟩ := ob_ H
           by_cases c35 : t107 = true
           ·subst c35; rw [if_pos rfl] at H
            by_cases c36 : a0_4 = (-1)
            ·rw [if_pos c36] at H
             have c36b0 : (a0_4 == (-1)) = true := beq_iff_eq.mpr c36
             have c36b1 : (a0_4 != (-1)) = false := bne_eq_false_iff_eq.mpr c36
             clear c36; obtain rfl := Option.some.inj H; obtain ⟨hcz37_0, hcz37_1, hcz37_2, hcz37_3, hcz37_4, hfz37_0, hfz37_1, hfz37_2, hfz37_3, hfz37_4⟩ := d5_ BK101
             go_wp2_with ((go_at_call 51; (with_reducible refine (spec_l1In.calls a0_3 0 30 true _ A34.o).mono ?_); rintro e w' ⟨rfl, ⟨nd, rfl⟩⟩; (try first | exact ⟨rfl, _, World.drewN_drewN _ _ _⟩ | exact ⟨rfl, _, Eq.trans (World.drewN_drewN _ _ _) (congrArg (World.drewN _) (Nat.add_assoc _ _ _))⟩)))
             repeat (go_quiet (fail); try go_wp2_with (fail))
             go_ret
             exact ⟨rt_, be1_ HB.o GE101.o⟩
            ·rw [if_neg c36] at H
             have c36b0 : (a0_4 == (-1)) = false := beq_eq_false_iff_ne.mpr c36
             have c36b1 : (a0_4 != (-1)) = true := bne_iff_ne.mpr c36
             obtain ⟨ji38, hji38⟩ : ∃ j_ : Int, (mx 1 a0_3) = j_ := ⟨_, rfl⟩
             replace H : ((spec_l1In.f a0_4 (ji38) 30).bind fun t108 => (some t108)) = some r := by first | (rw [hji38] at H; exact H) | (simp only [hji38] at H ⊢; exact H)
             (try rw [hji38] at A34)
             have hji38_ : (if 1 < a0_3 then a0_3 else 1) = ji38 := hji38
             obtain ⟨t108, A39, H⟩ := ob_ H; obtain rfl := Option.some.inj H; obtain ⟨hcz40_0, hcz40_1, hcz40_2, hcz40_3, hcz40_4, hfz40_0, hfz40_1, hfz40_2, hfz40_3, hfz40_4⟩ := d5_ BK101
             go_wp2_with (first | (go_at_call 51; (with_reducible refine (spec_l1In.calls a0_3 0 30 true _ A34.o).mono ?_); rintro e w' ⟨rfl, ⟨nd, rfl⟩⟩; (try first | exact ⟨rfl, _, World.drewN_drewN _ _ _⟩ | exact ⟨rfl, _, Eq.trans (World.drewN_drewN _ _ _) (congrArg (World.drewN _) (Nat.add_assoc _ _ _))⟩)) | (go_at_call 51; (with_reducible refine (spec_l1In.calls a0_4 ji38 30 t108 _ A39.o).mono ?_); rintro e w' ⟨rfl, ⟨nd, rfl⟩⟩; (try first | exact ⟨rfl, _, World.drewN_drewN _ _ _⟩ | exact ⟨rfl, _, Eq.trans (World.drewN_drewN _ _ _) (congrArg (World.drewN _) (Nat.add_assoc _ _ _))⟩)))
             repeat (go_quiet (fail); try go_wp2_with (fail))
             go_ret
             exact ⟨by first | rfl | (simp [errW_none, errW_some] <;> rfl) | (simp only [← hji38]; first | rfl | (simp [errW_none, errW_some] <;> rfl)) | (simp [*, errW_none, errW_some] <;> rfl), be1_ HB.o GE101.o⟩
           ·replace c35 := Bool.eq_false_iff.mpr c35; subst c35; rw [if_neg nft_] at H; obtain rfl := Option.some.inj H; obtain ⟨hcz41_0, hcz41_1, hcz41_2, hcz41_3, hcz41_4, hfz41_0, hfz41_1, hfz41_2, hfz41_3, hfz41_4⟩ := d5_ BK101
            go_wp2_with ((go_at_call 51; (with_reducible refine (spec_l1In.calls a0_3 0 30 false _ A34.o).mono ?_); rintro e w' ⟨rfl, ⟨nd, rfl⟩⟩; (try first | exact ⟨rfl, _, World.drewN_drewN _ _ _⟩ | exact ⟨rfl, _, Eq.trans (World.drewN_drewN _ _ _) (congrArg (World.drewN _) (Nat.add_assoc _ _ _))⟩)))
            repeat (go_quiet (fail); try go_wp2_with (fail))
            go_ret
            exact ⟨rt_, be1_ HB.o GE101.o⟩
          ·rw [if_neg c33] at H
           have c33b0 : (a0_0 == 8) = false := beq_eq_false_iff_ne.mpr c33
           have c33b1 : (a0_0 != 8) = true := bne_iff_ne.mpr c33
           by_cases c42 : a0_3 = 0
           ·rw [if_pos c42] at H
            have c42b0 : (a0_3 == 0) = true := beq_iff_eq.mpr c42
            have c42b1 : (a0_3 != 0) = false := bne_eq_false_iff_eq.mpr c42
            clear c42; obtain rfl := Option.some.inj H; obtain ⟨hcz43_0, hcz43_1, hcz43_2, hcz43_3, hcz43_4, hfz43_0, hfz43_1, hfz43_2, hfz43_3, hfz43_4⟩ := d5_ BK101
            go_wp2
            repeat (go_quiet (fail); try go_wp2)
            go_ret
            exact ⟨rt_, be1_ HB.o GE101.o⟩
           ·rw [if_neg c42] at H
            have c42b0 : (a0_3 == 0) = false := beq_eq_false_iff_ne.mpr c42
            have c42b1 : (a0_3 != 0) = true := bne_iff_ne.mpr c42
            obtain rfl := Option.some.inj H; obtain ⟨hcz44_0, hcz44_1, hcz44_2, hcz44_3, hcz44_4, hfz44_0, hfz44_1, hfz44_2, hfz44_3, hfz44_4⟩ := d5_ BK101
            go_wp2
            repeat (go_quiet (fail); try go_wp2)
            go_ret
            exact ⟨rt_, be1_ HB.o GE101.o⟩
end Go.Proofs.YtijmhelacmjggaaGreat.P
namespace Go.Proofs.YtijmhelacmjggaaGreat.P
open Go.RowKit Go.Proofs.YtijmhelacmjggaaGreatW.PrintWords Go.Proofs.YtijmhelacmjggaaGreatW.PrintLast Go.Proofs.YtijmhelacmjggaaGreatW.PrintMore Go.Proofs.YtijmhelacmjggaaGreatEv
set_option linter.unusedVariables false
set_option linter.unusedSimpArgs false
def kidsN (op : Int) : Int := if op = 1 ∨ op = 2 then 0 else if op = 3 ∨ op = 4 then 2 else if op = 5 ∨ op = 6 ∨ op = 7 ∨ op = 8 then 1 else -1
theorem impl_kidsOf_ev (op : Int) : Ev (fun k => impl_kidsOf.f k op) (kidsN op) := by
  have h1 : ∀ b, Ev (fun k => impl_kidsOf.j1 k op b) (if b then 2 else if op = 5 ∨ op = 6 ∨ op = 7 ∨ op = 8 then 1 else -1) := by
    intro b
    rw [ev_succ]
    simp only [impl_kidsOf.j1, ev_ite, ev_some]
    cases b <;> grind
  have h0 : ∀ b, Ev (fun k => impl_kidsOf.j0 k op b) (if b then 0 else if op = 3 ∨ op = 4 then 2 else if op = 5 ∨ op = 6 ∨ op = 7 ∨ op = 8 then 1 else -1) := by
    intro b
    rw [ev_succ]
    simp only [impl_kidsOf.j0, ev_ite, ev_some]
    cases b
    · by_cases h3 : op = 3
      · simpa [h3] using h1 (op == 3)
      · rw [if_neg (by simp), if_neg h3]
        refine ev_congr (h1 (op == 4)) ?_
        grind
    · simp
  unfold impl_kidsOf.f kidsN
  simp only [ev_ite]
  by_cases e1 : op = 1
  · rw [if_pos e1]
    refine ev_congr (h0 _) ?_
    grind
  · rw [if_neg e1]
    refine ev_congr (h0 _) ?_
    grind
def timesB (mi ma : Int) : Bool := decide (0 ≤ mi ∧ mi ≤ 30) && (decide (ma = -1) || (decide (mi ≤ ma ∧ ma ≤ 30) && decide (ma ≠ 0)))
theorem impl_timesOk_eq (mi ma : Int) : impl_timesOk.f mi ma = some (timesB mi ma) := by
  unfold impl_timesOk.f timesB
  simp only [impl_within_eq, Option.bind_some]
  by_cases h : 0 ≤ mi ∧ mi ≤ 30 <;> by_cases h1 : ma = -1 <;> by_cases h2 : mi ≤ ma ∧ ma ≤ 30 <;> simp_all <;> grind
def spansR : Int → List S67 → Bool
  | _, [] => true
  | last, s :: rest => decide (0 ≤ s.f0) && decide (s.f0 ≤ s.f1) && decide (s.f1 ≤ 255) && decide (last + 2 ≤ s.f0) && spansR s.f1 rest
def classB (l : List S67) : Bool := spansR (-2) l
theorem spansR_few : ∀ (l : List S67) (last : Int), -2 ≤ last → spansR last l = true → 2 * (l.length : Int) ≤ 255 - last ∨ l = [] := by
  intro l
  induction l with
  | nil => intro last _ _; exact .inr rfl
  | cons a l ih =>
    intro last h0 h
    simp only [spansR, Bool.and_eq_true, decide_eq_true_eq] at h
    left
    rcases ih a.f1 (by omega) h.2 with h1 | h1
    · simp only [List.length_cons]
      omega
    · subst h1
      simp
      omega
theorem classB_few {l : List S67} (h : classB l = true) : l.length ≤ 128 := by
  rcases spansR_few l (-2) (by omega) h with h1 | h1
  · omega
  · simp [h1]
theorem impl_ClassOk_ev (l : List S67) (hl : l.length ≤ 9223372036854775807) : Ev (fun k => impl_ClassOk.f k l) (classB l) := by
  unfold impl_ClassOk.f classB
  have key := down l.length (fun i => ∀ last : Int, (i = 0 → last = -2) → (0 < i → last = (rd_T67 l ((i - 1 : Nat) : Int)).f1 ∧ 0 ≤ last ∧ last ≤ 255) → Ev (fun k => impl_ClassOk.l0 k l l l.length (i : Nat)) (spansR last (l.drop i))) ?_ ?_ 0 (by omega) (-2) (fun _ => rfl) (by omega)
  · exact key
  · intro last _ _
    rw [ev_succ]
    simp only [impl_ClassOk.l0, ev_ite, ev_some]
    rw [if_neg (by omega), List.drop_length]
    rfl
  · intro i hi ih last hl0 hl1
    rw [ev_succ, drop_cons l z67 i hi]
    have hr : l.getD i z67 = rd_T67 l i := by simp [rd_T67]
    rw [hr]
    have ih2 := fun h => ih (rd_T67 l i).f1 (by omega) (fun _ => ⟨by rw [Nat.add_sub_cancel], h⟩)
    simp only [impl_ClassOk.l0, Option.bind_some, ev_ite, ev_some, spansR]
    rw [if_pos (by omega), if_pos (by omega), if_pos (by omega), wrap_succ hi (by omega)]
    have hprev : 0 < i → (0 ≤ wrap64 ((i : Int) - 1) ∧ wrap64 ((i : Int) - 1) < l.length ∧ (rd_T67 l (wrap64 ((i : Int) - 1))).f1 = last ∧ wrap64 (last + 2) = last + 2) := by
      intro hp
      have := hl1 hp
      rw [wrap_id (x := (i : Int) - 1) (by omega) (by omega), wrap_id (x := last + 2) (by omega) (by omega)]
      exact ⟨by omega, by omega, by rw [this.1, show ((i : Int) - 1) = ((i - 1 : Nat) : Int) by omega], rfl⟩
    generalize (l.drop (i + 1)) = T at *
    generalize rd_T67 l (i : Int) = a at *
    generalize hG : (fun k => impl_ClassOk.l0 k l l (l.length : Int) ((i + 1 : Nat) : Int)) = G at *
    by_cases c1 : a.f0 < 0
    · rw [if_pos c1]; simp [show ¬ 0 ≤ a.f0 by omega]
    rw [if_neg c1]
    by_cases c2 : a.f0 > a.f1
    · rw [if_pos c2]; simp [show ¬ a.f0 ≤ a.f1 by omega]
    rw [if_neg c2]
    by_cases c3 : a.f1 > 255
    · rw [if_pos c3]; simp [show ¬ a.f1 ≤ 255 by omega]
    rw [if_neg c3]
    have hend : (last + 2 ≤ a.f0) → Ev G (decide (0 ≤ a.f0) && decide (a.f0 ≤ a.f1) && decide (a.f1 ≤ 255) && decide (last + 2 ≤ a.f0) && spansR a.f1 T) := by
      intro h5
      refine ev_congr (ih2 (by omega)) ?_
      simp [show 0 ≤ a.f0 by omega, show a.f0 ≤ a.f1 by omega, show a.f1 ≤ 255 by omega, h5]
    by_cases h00 : i = 0
    · rw [if_neg (by omega)]
      exact hend (by have := hl0 h00; omega)
    · obtain ⟨h1', h2', h3', h4'⟩ := hprev (by omega)
      rw [if_pos (by omega), if_pos h1', if_pos h2', h3', h4']
      by_cases c5 : a.f0 < last + 2
      · rw [if_pos c5]; simp [show ¬ last + 2 ≤ a.f0 by omega]
      · rw [if_neg c5]
        exact hend (by omega)
theorem spec_ClassOk_ev (l : List S67) : Ev (fun k => spec_ClassOk.f k l) (classB l) := by
  unfold spec_ClassOk.f
  simp only [ev_ite]
  by_cases h6 : l.length ≤ 128
  · rw [if_neg (by omega)]
    unfold classB
    have key := down l.length (fun i => ∀ last : Int, (i = 0 → last = -2) → (0 < i → last = (rd_T67 l ((i - 1 : Nat) : Int)).f1 ∧ 0 ≤ last ∧ last ≤ 255) → Ev (fun k => spec_ClassOk.l0 k l (i : Nat)) (spansR last (l.drop i))) ?_ ?_ 0 (by omega) (-2) (fun _ => rfl) (by omega)
    · exact key
    · intro last _ _
      rw [ev_succ]
      simp only [spec_ClassOk.l0, ev_ite, ev_some]
      rw [if_neg (by omega), List.drop_length]
      rfl
    · intro i hi ih last hl0 hl1
      rw [ev_succ, drop_cons l z67 i hi]
      have hr : l.getD i z67 = rd_T67 l i := by simp [rd_T67]
      rw [hr]
      have ih2 := fun h => ih (rd_T67 l i).f1 (by omega) (fun _ => ⟨by rw [Nat.add_sub_cancel], h⟩)
      simp only [spec_ClassOk.l0, spec_l1In_eq, Option.bind_some, ev_ite, ev_some, spansR]
      rw [if_pos (by omega), if_pos (by omega), wrap_succ hi (by omega)]
      have hprev : 0 < i → (0 ≤ wrap64 ((i : Int) - 1) ∧ wrap64 ((i : Int) - 1) < l.length ∧ (rd_T67 l (wrap64 ((i : Int) - 1))).f1 = last ∧ wrap64 (last + 2) = last + 2) := by
        intro hp
        have := hl1 hp
        rw [wrap_id (x := (i : Int) - 1) (by omega) (by omega), wrap_id (x := last + 2) (by omega) (by omega)]
        exact ⟨by omega, by omega, by rw [this.1, show ((i : Int) - 1) = ((i - 1 : Nat) : Int) by omega], rfl⟩
      generalize (l.drop (i + 1)) = T at *
      generalize rd_T67 l (i : Int) = a at *
      generalize hG : (fun k => spec_ClassOk.l0 k l ((i + 1 : Nat) : Int)) = G at *
      by_cases c1 : 0 ≤ a.f0 ∧ a.f0 ≤ 255
      · rw [if_pos (by simpa using c1)]
        by_cases c2 : a.f0 ≤ a.f1 ∧ a.f1 ≤ 255
        · rw [if_pos (by simpa using c2)]
          have hend : (last + 2 ≤ a.f0) → Ev G (decide (0 ≤ a.f0) && decide (a.f0 ≤ a.f1) && decide (a.f1 ≤ 255) && decide (last + 2 ≤ a.f0) && spansR a.f1 T) := by
            intro h5
            refine ev_congr (ih2 (by omega)) ?_
            simp [c1, c2, h5]
          by_cases h00 : i = 0
          · rw [if_neg (by omega)]
            exact hend (by have := hl0 h00; omega)
          · obtain ⟨h1', h2', h3', h4'⟩ := hprev (by omega)
            rw [if_pos (by omega), if_pos h1', if_pos h2', h3', h4']
            by_cases c5 : a.f0 < last + 2
            · rw [if_pos c5]; simp [show ¬ last + 2 ≤ a.f0 by omega]
            · rw [if_neg c5]
              exact hend (by omega)
        · rw [if_neg (by simpa using c2)]
          grind
      · rw [if_neg (by simpa using c1)]
        grind
  · rw [if_pos (by omega)]
    refine ev_some.2 ?_
    cases h : classB l
    · rfl
    · exact absurd (classB_few h) h6
def nodeB (op : Int) (set : List S67) (kids : List Int) (mi ma place : Int) : Bool :=
  decide ((kids.length : Int) = kidsN op) && !(kids.any fun x => !decide (0 ≤ x ∧ x ≤ place - 1)) && (if op = 2 then classB set && !decide (set.length = 0) else decide (set.length = 0)) && (if op = 8 then timesB mi ma else decide (mi = 0) && decide (ma = 0))
end Go.Proofs.YtijmhelacmjggaaGreat.P
namespace Go.Proofs.YtijmhelacmjggaaGreat.P
open Go.RowKit Go.Proofs.YtijmhelacmjggaaGreatW.PrintWords Go.Proofs.YtijmhelacmjggaaGreatW.PrintLast Go.Proofs.YtijmhelacmjggaaGreatW.PrintMore
attribute [local go_sem] max2_int min2_int max_two min_two max_three min_three max_four min_four
set_option linter.unusedVariables false
set_option linter.unusedSimpArgs false
/-! ### spec_RxOk: function 53 -/
mutual
def spec_RxOk.j0 : Nat → Int → Bool → List (S121) → Option (Bool)
 | 0, _, _, _ => none
 | k + 1, x3, x18, x102000 => if x18 = true then (some false) else (if 0 ≤ x3 then (if (x3 : Int).toNat ≤ 35184372088832 then (spec_RxOk.l0 k x3 (List.replicate (x3 : Int).toNat 0) 0 x102000) else (none)) else (none))
def spec_RxOk.l0 : Nat → Int → List Int → Int → List (S121) → Option (Bool)
 | 0, _, _, _, _ => none
 | k + 1, x3, x4, x5, x102000 => if x5 < x3 then (if 0 ≤ x5 then (if x5 < (x102000.length : Int) then ((spec_l3Node.f k ((rd_T121 x102000 x5).f0) ((rd_T121 x102000 x5).f1) ((rd_T121 x102000 x5).f2) ((rd_T121 x102000 x5).f3) ((rd_T121 x102000 x5).f4) x5).bind fun t106 => (if t106 = true then (spec_RxOk.l1 k x3 x4 x5 0 x102000) else (some false))) else (none)) else (none)) else (if 0 ≤ x3 then (if (x3 : Int).toNat ≤ 35184372088832 then (spec_RxOk.l2 k x3 x4 (List.replicate (x3 : Int).toNat 0) (wrap64 (x3 - 1)) x102000) else (none)) else (none))
def spec_RxOk.l1 : Nat → Int → List Int → Int → Int → List (S121) → Option (Bool)
 | 0, _, _, _, _, _ => none
 | k + 1, x3, x4, x5, x6, x102000 => if 0 ≤ x5 then (if x5 < (x102000.length : Int) then (if x6 < (((rd_T121 x102000 x5).f2).length : Int) then (if 0 ≤ x6 then (if 0 ≤ (rd ((rd_T121 x102000 x5).f2) x6) then (if (rd ((rd_T121 x102000 x5).f2) x6) < (x4.length : Int) then (spec_RxOk.l1 k x3 (x4.set ((rd ((rd_T121 x102000 x5).f2) x6) : Int).toNat (wrap64 ((rd x4 (rd ((rd_T121 x102000 x5).f2) x6)) + 1))) x5 (wrap64 (x6 + 1)) x102000) else (none)) else (none)) else (none)) else (spec_RxOk.l0 k x3 x4 (wrap64 (x5 + 1)) x102000)) else (none)) else (none)
def spec_RxOk.l2 : Nat → Int → List Int → List Int → Int → List (S121) → Option (Bool)
 | 0, _, _, _, _, _ => none
 | k + 1, x3, x4, x7, x8, x102000 => if x8 ≥ 0 then (if x8 < (wrap64 (x3 - 1)) then (if 0 ≤ x8 then (if x8 < (x4.length : Int) then (if (rd x4 x8) = 1 then (if x8 < (x7.length : Int) then (spec_RxOk.j4 k x3 x4 x7 x8 (decide ((rd x7 x8) > 150)) x102000) else (none)) else (spec_RxOk.j4 k x3 x4 x7 x8 true x102000)) else (none)) else (none)) else (if 0 ≤ x8 then (if x8 < (x7.length : Int) then (spec_RxOk.j4 k x3 x4 x7 x8 (decide ((rd x7 x8) > 150)) x102000) else (none)) else (none))) else (some true)
def spec_RxOk.j4 : Nat → Int → List Int → List Int → Int → Bool → List (S121) → Option (Bool)
 | 0, _, _, _, _, _, _ => none
 | k + 1, x3, x4, x7, x8, x84, x102000 => if x84 = true then (some false) else (spec_RxOk.l3 k x3 x4 x7 x8 0 x102000)
def spec_RxOk.l3 : Nat → Int → List Int → List Int → Int → Int → List (S121) → Option (Bool)
 | 0, _, _, _, _, _, _ => none
 | k + 1, x3, x4, x7, x8, x9, x102000 => if 0 ≤ x8 then (if x8 < (x102000.length : Int) then (if x9 < (((rd_T121 x102000 x8).f2).length : Int) then (if 0 ≤ x9 then (if x8 < (x7.length : Int) then (if 0 ≤ (rd ((rd_T121 x102000 x8).f2) x9) then (if (rd ((rd_T121 x102000 x8).f2) x9) < (x7.length : Int) then (spec_RxOk.l3 k x3 x4 (x7.set ((rd ((rd_T121 x102000 x8).f2) x9) : Int).toNat (wrap64 ((rd x7 x8) + 1))) x8 (wrap64 (x9 + 1)) x102000) else (none)) else (none)) else (none)) else (none)) else (spec_RxOk.l2 k x3 x4 x7 (wrap64 (x8 - 1)) x102000)) else (none)) else (none)
end
def spec_RxOk.f (k : Nat) (l0_0 : List (S121)) : Option (Bool) := if (l0_0.length : Int) < 1 then (spec_RxOk.j0 k (l0_0.length : Int) true l0_0) else (spec_RxOk.j0 k (l0_0.length : Int) (decide ((l0_0.length : Int) > 300)) l0_0)
def spec_RxOk.T23 : Bool × List (List Nat × List Nat) := (true, [([], []), ([], []), ([1], [1]), ([], []), ([2, 3], [2, 3]), ([4], [4]), ([5], [5]), ([], []), ([6, 7], [6, 7]), ([8], [8]), ([], []), ([], []), ([10, 11], [10, 11]), ([12], [12]), ([13], [13]), ([0, 9, 0, 1, 2, 3, 4, 5, 6, 7, 8, 9, 10, 11, 12, 13, 14], [0, 9]), ([15, 14, 0, 1, 2, 3, 4, 5, 6, 7, 8, 9, 10, 11, 12, 13, 14], [14, 15])])
def spec_RxOk.B23 : List Nat := [0, 0, 2, 0, 14, 30, 62, 0, 254, 510, 0, 0, 3072, 7168, 15360, 32767, 65535]
theorem spec_RxOk.tab23 : rtab .any (opsOf Tryz.f53 23) = spec_RxOk.T23 := by kernel_rfl
theorem spec_RxOk.bits23 : waitsOk spec_RxOk.T23.2 spec_RxOk.B23 = true := by kernel_rfl
theorem spec_RxOk.calls (k : Nat) (A0_0 : Option Addr) (c0_0 : Nat) (l0_0 : List (S121)) (r : Bool) (w : World) (hr0_0 : Kd.C k121 w A0_0 l0_0.length l0_0) (hc0_0 : l0_0.length ≤ c0_0) (h : spec_RxOk.f k l0_0 = some r) :
  Calls Tryz.prog 53 #[.agg #[.slice A0_0 l0_0.length c0_0]] w fun e w' => e = .returned (.bool r) ∧ Below w.heap.size w w' := by
 have hu58 := Tryz.underlying58; have hu121 := Tryz.underlying121; have HR0_0 := q_ hr0_0; have HC0_0 := q_ hc0_0; clear hr0_0 hc0_0; have HB := q_ (Below.refl w.heap.size w)
 have H : (if (l0_0.length : Int) < 1 then (spec_RxOk.j0 k (l0_0.length : Int) true l0_0) else (spec_RxOk.j0 k (l0_0.length : Int) (decide ((l0_0.length : Int) > 300)) l0_0)) = some r := h
 clear h; have HC2 := q_ H; clear H
 go_enter Tryz.func53, Tryz.ntmps53
 go_upto_region 2 with (((with_reducible refine gate_dst (N := 1) rfl ?_); refine bx_ 1 #[.slice A0_0 l0_0.length c0_0] 58 ?_; intro gb101 hg w3 hbox hb; have BK101 := q_ (hbox); have GE101 := ge_ hg HB; replace HB := sb_ HB hb; clear hb hbox hg; obtain ⟨hcz4_0, hfz4_0⟩ := d1_ BK101))
 (try simp only [Act.put, List.setIfInBounds_toArray, List.set_cons_zero, List.set_cons_succ])
 go_cut [18] (fun v18 wc => ∃ (kq : Nat) (x18_1 : Bool), v18 = .bool x18_1 ∧ J0 (spec_RxOk.j0 kq (l0_0.length : Int) x18_1 l0_0 = some r) ∧ J0 (kq ≤ k) ∧ J0 (wc.heap[gb101]? = some (.cells #[(.slice A0_0 l0_0.length c0_0)] 58 (0, 0))) ∧ J0 (Below w.heap.size w wc))
 case first =>
  have H := HC2.o; clear HC2
  by_cases c5 : (l0_0.length : Int) < 1
  ·rw [if_pos c5] at H; have c5b0 := dt_ c5
   have c5b1 : decide (l0_0.length < 1) = true := decide_eq_true (by omega)
   clear c5
   (first | rw [c5b0] | (simp only [i64_w, i32_w]; rw [c5b0]) | skip)
   have H' := q_ H
   clear H
   go_wp2
   go_meet
   case rel => exact ⟨_, (true), rs_, H', ⟨by first | omega | exact Nat.le_refl _⟩, ⟨bk_ BK101.o⟩, ⟨be1_ HB.o GE101.o⟩⟩
  ·rw [if_neg c5] at H; have c5b0 := df_ c5
   have c5b1 : decide (l0_0.length < 1) = false := decide_eq_false (by omega)
   clear c5
   (first | rw [c5b0] | (simp only [i64_w, i32_w]; rw [c5b0]) | skip)
   have H' := q_ H
   clear H
   go_wp2
   go_meet
   case rel => exact ⟨_, (decide ((l0_0.length : Int) > 300)), rs_, H', ⟨by first | omega | exact Nat.le_refl _⟩, ⟨bk_ BK101.o⟩, ⟨be1_ HB.o GE101.o⟩⟩
 case rest =>
  clear HC2; (try clear c5); (try clear c5b0); (try clear c5b1); (try clear hcz4_0); (try clear hfz4_0); obtain ⟨kq, x18_1, rfl, HA, HJ1, BK101, HB⟩ := hcut
  cases kq with
  | zero => exact absurd HA.o (by simp [spec_RxOk.j0])
  | succ kj1 =>
   have H := HA.o; clear HA
   simp only [spec_RxOk.j0] at H
   by_cases c6 : x18_1 = true
   ·subst c6; rw [if_pos rfl] at H; obtain rfl := Option.some.inj H
    go_wp2
    go_ret
    exact ⟨rt_, be1_ HB.o GE101.o⟩
   ·replace c6 := Bool.eq_false_iff.mpr c6; subst c6; rw [if_neg nft_] at H
    by_cases c7 : 0 ≤ (l0_0.length : Int)
    ·rw [if_pos c7] at H; have c7b0 := eq_true c7; have c7b1 := dt_ c7; clear c7
     by_cases c8 : ((l0_0.length : Int) : Int).toNat ≤ 35184372088832
     ·rw [if_pos c8] at H; have c8b0 := eq_true c8; have c8b1 := dt_ c8; clear c8
      obtain ⟨y102, hy102⟩ : ∃ y_ : List Int, y_ = (List.replicate ((l0_0.length : Int) : Int).toNat 0) := ⟨_, rfl⟩
      replace H : (spec_RxOk.l0 kj1 (l0_0.length : Int) y102 0 l0_0) = some r := by first | (rw [hy102]; with_reducible exact H) | (have H2_ := (Option.bind_some _ _).symm.trans H; rw [hy102]; with_reducible exact H2_) | (have H2_ := (Option.bind_some _ _).symm.trans H; with_reducible exact H2_) | with_reducible exact H | (rw [hy102]; exact H) | exact H
      have Ny102 := q_ hy102; clear hy102
      have H' := q_ H
      clear H
      go_wp2_with (((with_reducible refine gate_dst (N := 20) rfl ?_); refine Kd.R_make (Kd.int .i64) _ 3 rfl (N := 20) rfl 117 _ _ rfl (l0_0.length : Int) rfl rfl Tryz.underlying117 (.int .i64 0) 8 info3 rfl (by decide) (by omega) 0 (ok := fun _ => True) (okp := fun _ => True) rfl (fun _ hk => hk) trivial (of_decide_eq_true as_) (Nat.le_trans (Nat.mul_le_mul_right _ (of_decide_eq_true as_ : (l0_0.length : Int).toNat ≤ 35184372088832)) (by omega)) (Below.refl _ _) (Nat.le_refl _) ?_; intro v103 w9 ho10 hb hg_ hnew_; clear hg_ hnew_; (first | rw [← Ny102.o] at ho10 | (simp only [Int.reduceToNat] at ho10; rw [← Ny102.o] at ho10)); have HO104 := q_ (Kd.R_lower ho10 (below_size (be1_ HB.o GE101.o))); replace BK101 := lb_ BK101 hb; replace HB := sb1_ HB GE101 hb; clear hb ho10))
      go_loopg [5] kj1 (fun kq v5 w' => ∃ (x4_2 : List Int) (x5_2 : Int), v5 = .int .i64 x5_2 ∧ J0 (spec_RxOk.l0 kq (l0_0.length : Int) x4_2 x5_2 l0_0 = some r) ∧ J0 (kq ≤ kj1) ∧ J0 (Kd.R (Kd.int .i64) 3 w' w.heap.size (fun _ => True) v103 x4_2) ∧ J0 (w'.heap[gb101]? = some (.cells #[(.slice A0_0 l0_0.length c0_0)] 58 (0, 0))) ∧ J0 (Below w.heap.size w w'))
      case atStart => exact ⟨(y102), (0), rs_, H', ⟨Nat.le_refl _⟩, ⟨ra_ HO104.o⟩, ⟨bk_ BK101.o⟩, ⟨be1_ HB.o GE101.o⟩⟩
      case round =>
       clear H'; (try clear c5); (try clear c5b0); (try clear c5b1); (try clear c6); (try clear c7); (try clear c7b0); (try clear c7b1); (try clear c8); (try clear c8b0); (try clear c8b1); (try clear hcz4_0); (try clear hfz4_0); obtain ⟨x4_2, x5_2, rfl, HA, HK2, HO_4, BK101, HB⟩ := hrel
       cases gk with
       | zero => exact absurd HA.o (by simp [spec_RxOk.l0])
       | succ k2 =>
        have H := HA.o; clear HA
        simp only [spec_RxOk.l0] at H
        by_cases c11 : x5_2 < (l0_0.length : Int)
        ·rw [if_pos c11] at H; have c11b0 := dt_ c11; clear c11
         by_cases c12 : 0 ≤ x5_2
         ·rw [if_pos c12] at H; have c12b0 := dt_ c12; clear c12
          by_cases c13 : x5_2 < (l0_0.length : Int)
          ·rw [if_pos c13] at H; have c13b0 := dt_ c13; clear c13; obtain ⟨t106, A14, H⟩ := ob_ H
           by_cases c15 : t106 = true
           ·subst c15; rw [if_pos rfl] at H
            have H' := q_ H
            clear H; obtain ⟨hcz16_0, hfz16_0⟩ := d1_ BK101
            have p105 : 0 ≤ (x5_2 : Int) := of_decide_eq_true as_
            have q105 : x5_2 < (l0_0.length : Int) := of_decide_eq_true as_
            obtain ⟨ad105, A105_1, c105_1, A105_2, c105_2, e105, hx105_0, hx105_1, hx105_2, hx105_3, hx105_4, hl105_1, hi105_1, hl105_2, hi105_2⟩ := at_T121 HR0_0.o x5_2 p105 q105
            cases e105
            replace hx105_0 := mv_ HB.o hx105_0; replace hx105_1 := mv_ HB.o hx105_1; replace hx105_2 := mv_ HB.o hx105_2; replace hx105_3 := mv_ HB.o hx105_3; replace hx105_4 := mv_ HB.o hx105_4; have HR105_1 := q_ hi105_1; have HC105_1 := q_ hl105_1; clear hi105_1 hl105_1; have HR105_2 := q_ hi105_2; have HC105_2 := q_ hl105_2; clear hi105_2 hl105_2; replace p105 := eq_true p105; replace q105 := eq_true q105
            go_wp2_with (((with_reducible refine gate_callee (f := 80) rfl ?_); refine gl_ (some 32) rfl rfl Tryz.func80 #[.agg #[.int .i64 ((rd_T121 l0_0 x5_2).f0), .slice A105_1 ((rd_T121 l0_0 x5_2).f1).length c105_1, .slice A105_2 ((rd_T121 l0_0 x5_2).f2).length c105_2, .int .i64 ((rd_T121 l0_0 x5_2).f3), .int .i64 ((rd_T121 l0_0 x5_2).f4)], .int .i64 x5_2] ?_; (with_reducible refine (spec_l3Node.calls k2 ((rd_T121 l0_0 x5_2).f0) _ _ ((rd_T121 l0_0 x5_2).f1) _ _ ((rd_T121 l0_0 x5_2).f2) ((rd_T121 l0_0 x5_2).f3) ((rd_T121 l0_0 x5_2).f4) x5_2 true _ ?side1 ?side2 ?side3 ?side4 A14.o).mono ?_); (case side1 => exact Kd.C_below HR105_1.o (be_ HB.o)); (case side2 => exact HC105_1.o); (case side3 => exact Kd.C_below HR105_2.o (be_ HB.o)); (case side4 => exact HC105_2.o); rintro e w17 ⟨rfl, hb⟩; refine ⟨_, rfl, ?_⟩; replace HO_4 := q_ (Kd.R_below (ra_ HO_4.o) hb); replace BK101 := lb_ BK101 hb; replace HB := sb1_ HB GE101 hb; (try clear hb)))
            go_loopg [6] k2 (fun kq v6 w' => ∃ (x4_3 : List Int) (x6_3 : Int), v6 = .int .i64 x6_3 ∧ J0 (spec_RxOk.l1 kq (l0_0.length : Int) x4_3 x5_2 x6_3 l0_0 = some r) ∧ J0 (kq ≤ k2) ∧ J0 (Kd.R (Kd.int .i64) 3 w' w.heap.size (fun _ => True) v103 x4_3) ∧ J0 (w'.heap[gb101]? = some (.cells #[(.slice (some ad105) l0_0.length c0_0)] 58 (0, 0))) ∧ J0 (Below w.heap.size w w'))
            case atStart => exact ⟨(x4_2), (0), rs_, H', ⟨Nat.le_refl _⟩, ⟨ra_ HO_4.o⟩, ⟨bk_ BK101.o⟩, ⟨be1_ HB.o GE101.o⟩⟩
            case round =>
             clear H'; (try clear c5); (try clear c5b0); (try clear c5b1); (try clear c6); (try clear c7); (try clear c7b0); (try clear c7b1); (try clear c8); (try clear c8b0); (try clear c8b1); (try clear c11); (try clear c11b0); (try clear c12); (try clear c12b0); (try clear c13); (try clear c13b0); (try clear c15); (try clear hcz16_0); (try clear hcz4_0); (try clear hfz16_0); (try clear hfz4_0); (try clear hx105_0); (try clear hx105_1); (try clear hx105_2); (try clear hx105_3); (try clear hx105_4); (try clear p105); (try clear q105); obtain ⟨x4_3, x6_3, rfl, HA, HK3, HO_4, BK101, HB⟩ := hrel
             cases gk with
             | zero => exact absurd HA.o (by simp [spec_RxOk.l1])
             | succ k3 =>
              have H := HA.o; clear HA
              simp only [spec_RxOk.l1] at H
              by_cases c18 : 0 ≤ x5_2
              ·rw [if_pos c18] at H; have c18b0 := dt_ c18; clear c18
               by_cases c19 : x5_2 < (l0_0.length : Int)
               ·rw [if_pos c19] at H; have c19b0 := dt_ c19; clear c19
                by_cases c20 : x6_3 < (((rd_T121 l0_0 x5_2).f2).length : Int)
                ·rw [if_pos c20] at H; have c20b0 := dt_ c20; clear c20
                 by_cases c21 : 0 ≤ x6_3
                 ·rw [if_pos c21] at H; have c21b0 := dt_ c21; clear c21
                  by_cases c22 : 0 ≤ (rd ((rd_T121 l0_0 x5_2).f2) x6_3)
                  ·rw [if_pos c22] at H; have c22b0 := dt_ c22; clear c22
                   by_cases c23 : (rd ((rd_T121 l0_0 x5_2).f2) x6_3) < (x4_3.length : Int)
                   ·rw [if_pos c23] at H; have c23b0 := dt_ c23; clear c23
                    obtain ⟨y111, hy111⟩ : ∃ y_ : List Int, y_ = (x4_3.set ((rd ((rd_T121 l0_0 x5_2).f2) x6_3) : Int).toNat (wrap64 ((rd x4_3 (rd ((rd_T121 l0_0 x5_2).f2) x6_3)) + 1))) := ⟨_, rfl⟩
                    replace H : (spec_RxOk.l1 k3 (l0_0.length : Int) y111 x5_2 (wrap64 (x6_3 + 1)) l0_0) = some r := by first | (rw [hy111]; with_reducible exact H) | (have H2_ := (Option.bind_some _ _).symm.trans H; rw [hy111]; with_reducible exact H2_) | (have H2_ := (Option.bind_some _ _).symm.trans H; with_reducible exact H2_) | with_reducible exact H | (rw [hy111]; exact H) | exact H
                    have Ny111 := q_ hy111; clear hy111
                    have H' := q_ H
                    clear H; obtain ⟨hcz25_0, hfz25_0⟩ := d1_ BK101
                    have p107 : 0 ≤ (x5_2 : Int) := of_decide_eq_true as_
                    have q107 : x5_2 < (l0_0.length : Int) := of_decide_eq_true as_
                    obtain ⟨ad107, A107_1, c107_1, A107_2, c107_2, e107, hx107_0, hx107_1, hx107_2, hx107_3, hx107_4, hl107_1, hi107_1, hl107_2, hi107_2⟩ := at_T121 HR0_0.o x5_2 p107 q107
                    obtain rfl : ad105 = ad107 := (by injection e107)
                    replace hx107_0 := mv_ HB.o hx107_0; replace hx107_1 := mv_ HB.o hx107_1; replace hx107_2 := mv_ HB.o hx107_2; replace hx107_3 := mv_ HB.o hx107_3; replace hx107_4 := mv_ HB.o hx107_4; have HR107_1 := q_ hi107_1; have HC107_1 := q_ hl107_1; clear hi107_1 hl107_1; have HR107_2 := q_ hi107_2; have HC107_2 := q_ hl107_2; clear hi107_2 hl107_2; replace p107 := eq_true p107; replace q107 := eq_true q107
                    have p109 : 0 ≤ (x6_3 : Int) := of_decide_eq_true as_
                    have q109 : x6_3 < (((rd_T121 l0_0 x5_2).f2).length : Int) := of_decide_eq_true as_
                    obtain ⟨ad109, e109, hx109_0⟩ := Kd.at_int HR107_2.o x6_3 p109 q109
                    cases e109
                    replace hx109_0 := mv_ HB.o hx109_0; replace p109 := eq_true p109; replace q109 := eq_true q109; obtain ⟨Ao26, co26, eo26⟩ := Kd.R_slice HO_4.o; subst eo26
                    have p110 : 0 ≤ ((rd ((rd_T121 l0_0 x5_2).f2) x6_3) : Int) := of_decide_eq_true as_
                    have q110 : (rd ((rd_T121 l0_0 x5_2).f2) x6_3) < (x4_3.length : Int) := of_decide_eq_true as_
                    obtain ⟨ad110, e110, hx110_0⟩ := Kd.at_int (Kd.R_reads' HO_4.o).2.2 (rd ((rd_T121 l0_0 x5_2).f2) x6_3) p110 q110
                    cases e110
                    replace p110 := eq_true p110; replace q110 := eq_true q110
                    have p24 : 0 ≤ ((rd ((rd_T121 l0_0 x5_2).f2) x6_3) : Int) := of_decide_eq_true as_
                    have q24 : ((rd ((rd_T121 l0_0 x5_2).f2) x6_3) : Int) < ((x4_3.length : Int) : Int) := of_decide_eq_true as_
                    obtain ⟨go24, co24, eo24, gb24, gl24, cl24, HG24⟩ := Kd.R_form HO_4.o (by omega)
                    (first | cases eo24 | (injection eo24 with ea_ en_ ec_; (first | subst ea_ | (injection ea_ with ea_; subst ea_)); subst ec_; clear en_))
                    have GB24 := q_ gb24; have GG24 := q_ HG24; clear gb24 gl24 HG24
                    (first | simp only [add_plain] at hx110_0 | skip)
                    obtain ⟨hx24_0, hf24_0⟩ := Kd.R_celln 0 HO_4.o ((rd ((rd_T121 l0_0 x5_2).f2) x6_3) : Int) p24 q24; replace p24 := eq_true p24; replace q24 := eq_true q24; have HP27 := Kd.R_putg HO_4.o ((rd ((rd_T121 l0_0 x5_2).f2) x6_3) : Int) (wrap64 ((rd x4_3 (rd ((rd_T121 l0_0 x5_2).f2) x6_3)) + 1))
                    go_wp2_with (((with_reducible refine gate_store (t := 3) (p := 58) rfl ?_); refine store_event (t := 3) (p := 58) (v := ?vo_w28) (w1 := (wr.setCell ⟨go24, ((rd ((rd_T121 l0_0 x5_2).f2) x6_3) : Int).toNat, none⟩ (.int .i64 (wrap64 ((rd x4_3 (rd ((rd_T121 l0_0 x5_2).f2) x6_3)) + 1))))) ?hg ?ho ?hn ?hr ?_; (case ho => rfl); (case hg => rfl); (case hn => rfl); (case hr => first | (go_simp; done) | (go_simp; rfl)); intro w28 hw; have hg : wr.grownBy w28 (some go24) := (by rw [hw]; exact HP27.2); have hp_ : Kd.R (Kd.int .i64) 3 w28 w.heap.size (fun _ => True) (.slice (some ⟨go24, 0, none⟩) x4_3.length co26) y111 := (by rw [hw, Ny111.o]; exact HP27.1); clear HP27; replace BK101 := q_ (blk_grown (g := gb101) (o := .cells #[.slice (some ad105) l0_0.length c0_0] 58 (0, 0)) (bk_ BK101.o) hg (Kd.R_ne HO_4.o BK101.o (by decide))); replace HO_4 := q_ (hp_); replace HB := q_ ((by rw [hw]; exact below_set (HB.o) GB24.out : Below w.heap.size w w28)); clear hg hw hp_))
                    go_roundg k3
                    case measure => have := HJ1.o; have := HK2.o; have := HK3.o; omega
                    case rel => exact ⟨(y111), (wrap64 (x6_3 + 1)), rs_, H', ⟨by have := HJ1.o; have := HK2.o; have := HK3.o; omega⟩, ⟨ra_ HO_4.o⟩, ⟨bk_ BK101.o⟩, ⟨be1_ HB.o GE101.o⟩⟩
                   ·rw [if_neg c23] at H
                    exact absurd H (by simp)
                  ·rw [if_neg c22] at H
                   exact absurd H (by simp)
                 ·rw [if_neg c21] at H
                  exact absurd H (by simp)
                ·rw [if_neg c20] at H; have c20b0 := df_ c20; clear c20
                 have H' := q_ H
                 clear H; obtain ⟨hcz29_0, hfz29_0⟩ := d1_ BK101
                 have p107 : 0 ≤ (x5_2 : Int) := of_decide_eq_true as_
                 have q107 : x5_2 < (l0_0.length : Int) := of_decide_eq_true as_
                 obtain ⟨ad107, A107_1, c107_1, A107_2, c107_2, e107, hx107_0, hx107_1, hx107_2, hx107_3, hx107_4, hl107_1, hi107_1, hl107_2, hi107_2⟩ := at_T121 HR0_0.o x5_2 p107 q107
                 obtain rfl : ad105 = ad107 := (by injection e107)
                 replace hx107_0 := mv_ HB.o hx107_0; replace hx107_1 := mv_ HB.o hx107_1; replace hx107_2 := mv_ HB.o hx107_2; replace hx107_3 := mv_ HB.o hx107_3; replace hx107_4 := mv_ HB.o hx107_4; have HR107_1 := q_ hi107_1; have HC107_1 := q_ hl107_1; clear hi107_1 hl107_1; have HR107_2 := q_ hi107_2; have HC107_2 := q_ hl107_2; clear hi107_2 hl107_2; replace p107 := eq_true p107; replace q107 := eq_true q107
                 go_wp2
                 go_roundg k3
                 case measure => have := HJ1.o; have := HK2.o; have := HK3.o; omega
                 case rel => exact ⟨(x4_3), (wrap64 (x5_2 + 1)), rs_, H', ⟨by have := HJ1.o; have := HK2.o; have := HK3.o; omega⟩, ⟨ra_ HO_4.o⟩, ⟨bk_ BK101.o⟩, ⟨be1_ HB.o GE101.o⟩⟩
               ·rw [if_neg c19] at H
                exact absurd H (by simp)
              ·rw [if_neg c18] at H
               exact absurd H (by simp)
           ·replace c15 := Bool.eq_false_iff.mpr c15; subst c15; rw [if_neg nft_] at H; obtain rfl := Option.some.inj H; obtain ⟨hcz30_0, hfz30_0⟩ := d1_ BK101
            have p105 : 0 ≤ (x5_2 : Int) := of_decide_eq_true as_
            have q105 : x5_2 < (l0_0.length : Int) := of_decide_eq_true as_
            obtain ⟨ad105, A105_1, c105_1, A105_2, c105_2, e105, hx105_0, hx105_1, hx105_2, hx105_3, hx105_4, hl105_1, hi105_1, hl105_2, hi105_2⟩ := at_T121 HR0_0.o x5_2 p105 q105
            cases e105
            replace hx105_0 := mv_ HB.o hx105_0; replace hx105_1 := mv_ HB.o hx105_1; replace hx105_2 := mv_ HB.o hx105_2; replace hx105_3 := mv_ HB.o hx105_3; replace hx105_4 := mv_ HB.o hx105_4; have HR105_1 := q_ hi105_1; have HC105_1 := q_ hl105_1; clear hi105_1 hl105_1; have HR105_2 := q_ hi105_2; have HC105_2 := q_ hl105_2; clear hi105_2 hl105_2; replace p105 := eq_true p105; replace q105 := eq_true q105
            go_wp2_with (((with_reducible refine gate_callee (f := 80) rfl ?_); refine gl_ (some 32) rfl rfl Tryz.func80 #[.agg #[.int .i64 ((rd_T121 l0_0 x5_2).f0), .slice A105_1 ((rd_T121 l0_0 x5_2).f1).length c105_1, .slice A105_2 ((rd_T121 l0_0 x5_2).f2).length c105_2, .int .i64 ((rd_T121 l0_0 x5_2).f3), .int .i64 ((rd_T121 l0_0 x5_2).f4)], .int .i64 x5_2] ?_; (with_reducible refine (spec_l3Node.calls k2 ((rd_T121 l0_0 x5_2).f0) _ _ ((rd_T121 l0_0 x5_2).f1) _ _ ((rd_T121 l0_0 x5_2).f2) ((rd_T121 l0_0 x5_2).f3) ((rd_T121 l0_0 x5_2).f4) x5_2 false _ ?side1 ?side2 ?side3 ?side4 A14.o).mono ?_); (case side1 => exact Kd.C_below HR105_1.o (be_ HB.o)); (case side2 => exact HC105_1.o); (case side3 => exact Kd.C_below HR105_2.o (be_ HB.o)); (case side4 => exact HC105_2.o); rintro e w31 ⟨rfl, hb⟩; refine ⟨_, rfl, ?_⟩; replace HO_4 := q_ (Kd.R_below (ra_ HO_4.o) hb); replace BK101 := lb_ BK101 hb; replace HB := sb1_ HB GE101 hb; (try clear hb)))
            go_ret
            exact ⟨rt_, be1_ HB.o GE101.o⟩
          ·rw [if_neg c13] at H
           exact absurd H (by simp)
         ·rw [if_neg c12] at H
          exact absurd H (by simp)
        ·rw [if_neg c11] at H; have c11b0 := df_ c11; clear c11
         by_cases c32 : 0 ≤ (l0_0.length : Int)
         ·rw [if_pos c32] at H; have c32b0 := eq_true c32; have c32b1 := dt_ c32; clear c32
          by_cases c33 : ((l0_0.length : Int) : Int).toNat ≤ 35184372088832
          ·rw [if_pos c33] at H; have c33b0 := eq_true c33; have c33b1 := dt_ c33; clear c33
           obtain ⟨y112, hy112⟩ : ∃ y_ : List Int, y_ = (List.replicate ((l0_0.length : Int) : Int).toNat 0) := ⟨_, rfl⟩
           replace H : (spec_RxOk.l2 k2 (l0_0.length : Int) x4_2 y112 (wrap64 ((l0_0.length : Int) - 1)) l0_0) = some r := by first | (rw [hy112]; with_reducible exact H) | (have H2_ := (Option.bind_some _ _).symm.trans H; rw [hy112]; with_reducible exact H2_) | (have H2_ := (Option.bind_some _ _).symm.trans H; with_reducible exact H2_) | with_reducible exact H | (rw [hy112]; exact H) | exact H
           have Ny112 := q_ hy112; clear hy112
           have H' := q_ H
           clear H
           go_wp2_with (((with_reducible refine gate_dst (N := 60) rfl ?_); refine Kd.R_make (Kd.int .i64) _ 3 rfl (N := 60) rfl 117 _ _ rfl (l0_0.length : Int) rfl rfl Tryz.underlying117 (.int .i64 0) 8 info3 rfl (by decide) (by omega) 0 (ok := fun _ => True) (okp := fun _ => True) rfl (fun _ hk => hk) trivial (of_decide_eq_true as_) (Nat.le_trans (Nat.mul_le_mul_right _ (of_decide_eq_true as_ : (l0_0.length : Int).toNat ≤ 35184372088832)) (by omega)) (Below.refl _ _) (Nat.le_refl _) ?_; intro v113 w34 ho35 hb hg_ hnew_; clear hg_ hnew_; (first | rw [← Ny112.o] at ho35 | (simp only [Int.reduceToNat] at ho35; rw [← Ny112.o] at ho35)); have HO114 := q_ (Kd.R_lower (Kd.R_new' ho35 (Kd.R_lt (ra_ HO_4.o))) (below_size (be1_ HB.o GE101.o))); replace HO_4 := q_ (Kd.R_elder' (ra_ HO_4.o) (Kd.R_base ho35) hb); replace BK101 := lb_ BK101 hb; replace HB := sb1_ HB GE101 hb; clear hb ho35))
           go_loopg [8] k2 (fun kq v8 w' => ∃ (x7_3 : List Int) (x8_3 : Int), v8 = .int .i64 x8_3 ∧ J0 (spec_RxOk.l2 kq (l0_0.length : Int) x4_2 x7_3 x8_3 l0_0 = some r) ∧ J0 (kq ≤ k2) ∧ J0 (Kd.R (Kd.int .i64) 3 w' w.heap.size (fun k_ => some k_ ≠ (v113 : Value).ownBlock) v103 x4_2) ∧ J0 (Kd.R (Kd.int .i64) 3 w' w.heap.size (fun k_ => some k_ ≠ (v103 : Value).ownBlock) v113 x7_3) ∧ J0 (w'.heap[gb101]? = some (.cells #[(.slice A0_0 l0_0.length c0_0)] 58 (0, 0))) ∧ J0 (Below w.heap.size w w'))
           case atStart => exact ⟨(y112), (wrap64 ((l0_0.length : Int) - 1)), rs_, H', ⟨Nat.le_refl _⟩, ⟨by (with_reducible repeat (first | apply Kd.R_alloc | apply Kd.R_drewN | apply Kd.R_drew)); exact Kd.R_mono HO_4.o (fun _ hk => hk.2)⟩, ⟨by (with_reducible repeat (first | apply Kd.R_alloc | apply Kd.R_drewN | apply Kd.R_drew)); exact Kd.R_mono HO114.o (fun _ hk => hk.2)⟩, ⟨bk_ BK101.o⟩, ⟨be1_ HB.o GE101.o⟩⟩
           case round =>
            clear H'; (try clear c5); (try clear c5b0); (try clear c5b1); (try clear c6); (try clear c7); (try clear c7b0); (try clear c7b1); (try clear c8); (try clear c8b0); (try clear c8b1); (try clear c11); (try clear c11b0); (try clear c12); (try clear c12b0); (try clear c13); (try clear c13b0); (try clear c15); (try clear c18); (try clear c18b0); (try clear c19); (try clear c19b0); (try clear c20); (try clear c20b0); (try clear c21); (try clear c21b0); (try clear c22); (try clear c22b0); (try clear c23); (try clear c23b0); (try clear p24); (try clear q24); (try clear c32); (try clear c32b0); (try clear c32b1); (try clear c33); (try clear c33b0); (try clear c33b1); (try clear hcz16_0); (try clear hcz25_0); (try clear hcz29_0); (try clear hcz30_0); (try clear hcz4_0); (try clear hfz16_0); (try clear hfz25_0); (try clear hfz29_0); (try clear hfz30_0); (try clear hfz4_0); (try clear hx105_0); (try clear hx105_1); (try clear hx105_2); (try clear hx105_3); (try clear hx105_4); (try clear hx107_0); (try clear hx107_1); (try clear hx107_2); (try clear hx107_3); (try clear hx107_4); (try clear hx108_0); (try clear hx108_1); (try clear hx108_2); (try clear hx108_3); (try clear hx108_4); (try clear hx109_0); (try clear hx110_0); (try clear hx24_0); (try clear p105); (try clear p107); (try clear p108); (try clear p109); (try clear p110); (try clear p24); (try clear q105); (try clear q107); (try clear q108); (try clear q109); (try clear q110); (try clear q24); obtain ⟨x7_3, x8_3, rfl, HA, HK3, HO_4, HO_7, BK101, HB⟩ := hrel
            cases gk with
            | zero => exact absurd HA.o (by simp [spec_RxOk.l2])
            | succ k3 =>
             have H := HA.o; clear HA
             simp only [spec_RxOk.l2] at H
             by_cases c36 : x8_3 ≥ 0
             ·rw [if_pos c36] at H
              have c36b0 : decide (0 ≤ x8_3) = true := dt_ c36
              clear c36; have HC37 := q_ H; clear H
              go_upto_region 18 with (fail)
              go_cut [84] (fun v84 wc => ∃ (kq : Nat) (x84_36 : Bool), v84 = .bool x84_36 ∧ J0 (spec_RxOk.j4 kq (l0_0.length : Int) x4_2 x7_3 x8_3 x84_36 l0_0 = some r) ∧ J0 (kq ≤ k3) ∧ J0 (Kd.R (Kd.int .i64) 3 wc w.heap.size (fun k_ => some k_ ≠ (v113 : Value).ownBlock) v103 x4_2) ∧ J0 (Kd.R (Kd.int .i64) 3 wc w.heap.size (fun k_ => some k_ ≠ (v103 : Value).ownBlock) v113 x7_3) ∧ J0 (wc.heap[gb101]? = some (.cells #[(.slice A0_0 l0_0.length c0_0)] 58 (0, 0))) ∧ J0 (Below w.heap.size w wc))
              case first =>
               have H := HC37.o; clear HC37
               by_cases c38 : x8_3 < (wrap64 ((l0_0.length : Int) - 1))
               ·rw [if_pos c38] at H; have c38b0 := dt_ c38; clear c38
                (first | rw [c38b0] | (simp only [i64_w, i32_w]; rw [c38b0]) | skip)
                by_cases c39 : 0 ≤ x8_3
                ·rw [if_pos c39] at H; have c39b0 := dt_ c39; clear c39
                 by_cases c40 : x8_3 < (x4_2.length : Int)
                 ·rw [if_pos c40] at H; have c40b0 := dt_ c40; clear c40
                  by_cases c41 : (rd x4_2 x8_3) = 1
                  ·rw [if_pos c41] at H
                   have c41b0 : ((rd x4_2 x8_3) == 1) = true := beq_iff_eq.mpr c41
                   have c41b1 : ((rd x4_2 x8_3) != 1) = false := bne_eq_false_iff_eq.mpr c41
                   clear c41
                   by_cases c42 : x8_3 < (x7_3.length : Int)
                   ·rw [if_pos c42] at H; have c42b0 := dt_ c42; clear c42
                    have H' := q_ H
                    clear H; obtain ⟨Ao43, co43, eo43⟩ := Kd.R_slice HO_4.o; subst eo43
                    have p115 : 0 ≤ (x8_3 : Int) := of_decide_eq_true as_
                    have q115 : x8_3 < (x4_2.length : Int) := of_decide_eq_true as_
                    obtain ⟨ad115, e115, hx115_0⟩ := Kd.at_int (Kd.R_reads' HO_4.o).2.2 x8_3 p115 q115
                    cases e115
                    replace p115 := eq_true p115; replace q115 := eq_true q115; obtain ⟨Ao44, co44, eo44⟩ := Kd.R_slice HO_7.o; subst eo44
                    have p116 : 0 ≤ (x8_3 : Int) := of_decide_eq_true as_
                    have q116 : x8_3 < (x7_3.length : Int) := of_decide_eq_true as_
                    obtain ⟨ad116, e116, hx116_0⟩ := Kd.at_int (Kd.R_reads' HO_7.o).2.2 x8_3 p116 q116
                    cases e116
                    replace p116 := eq_true p116; replace q116 := eq_true q116
                    go_wp2
                    go_meet
                    case rel => exact ⟨_, (decide ((rd x7_3 x8_3) > 150)), rs_, H', ⟨by have := HJ1.o; have := HK2.o; have := HK3.o; first | omega | exact Nat.le_refl _⟩, ⟨ra_ HO_4.o⟩, ⟨ra_ HO_7.o⟩, ⟨bk_ BK101.o⟩, ⟨be1_ HB.o GE101.o⟩⟩
                   ·rw [if_neg c42] at H
                    exact absurd H (by simp)
                  ·rw [if_neg c41] at H
                   have c41b0 : ((rd x4_2 x8_3) == 1) = false := beq_eq_false_iff_ne.mpr c41
                   have c41b1 : ((rd x4_2 x8_3) != 1) = true := bne_iff_ne.mpr c41
                   have H' := q_ H
                   clear H; obtain ⟨Ao45, co45, eo45⟩ := Kd.R_slice HO_4.o; subst eo45
                   have p115 : 0 ≤ (x8_3 : Int) := of_decide_eq_true as_
                   have q115 : x8_3 < (x4_2.length : Int) := of_decide_eq_true as_
                   obtain ⟨ad115, e115, hx115_0⟩ := Kd.at_int (Kd.R_reads' HO_4.o).2.2 x8_3 p115 q115
                   cases e115
                   replace p115 := eq_true p115; replace q115 := eq_true q115
                   go_wp2
                   go_meet
                   case rel => exact ⟨_, (true), rs_, H', ⟨by have := HJ1.o; have := HK2.o; have := HK3.o; first | omega | exact Nat.le_refl _⟩, ⟨ra_ HO_4.o⟩, ⟨ra_ HO_7.o⟩, ⟨bk_ BK101.o⟩, ⟨be1_ HB.o GE101.o⟩⟩
                 ·rw [if_neg c40] at H
                  exact absurd H (by simp)
                ·rw [if_neg c39] at H
                 exact absurd H (by simp)
               ·rw [if_neg c38] at H; have c38b0 := df_ c38; clear c38
                (first | rw [c38b0] | (simp only [i64_w, i32_w]; rw [c38b0]) | skip)
                by_cases c46 : 0 ≤ x8_3
                ·rw [if_pos c46] at H; have c46b0 := dt_ c46; clear c46
                 by_cases c47 : x8_3 < (x7_3.length : Int)
                 ·rw [if_pos c47] at H; have c47b0 := dt_ c47; clear c47
                  have H' := q_ H
                  clear H; obtain ⟨Ao48, co48, eo48⟩ := Kd.R_slice HO_7.o; subst eo48
                  have p117 : 0 ≤ (x8_3 : Int) := of_decide_eq_true as_
                  have q117 : x8_3 < (x7_3.length : Int) := of_decide_eq_true as_
                  obtain ⟨ad117, e117, hx117_0⟩ := Kd.at_int (Kd.R_reads' HO_7.o).2.2 x8_3 p117 q117
                  cases e117
                  replace p117 := eq_true p117; replace q117 := eq_true q117
                  go_wp2
                  go_meet
                  case rel => exact ⟨_, (decide ((rd x7_3 x8_3) > 150)), rs_, H', ⟨by have := HJ1.o; have := HK2.o; have := HK3.o; first | omega | exact Nat.le_refl _⟩, ⟨ra_ HO_4.o⟩, ⟨ra_ HO_7.o⟩, ⟨bk_ BK101.o⟩, ⟨be1_ HB.o GE101.o⟩⟩
                 ·rw [if_neg c47] at H
                  exact absurd H (by simp)
                ·rw [if_neg c46] at H
                 exact absurd H (by simp)
              case rest =>
               clear HC37; (try clear c5); (try clear c5b0); (try clear c5b1); (try clear c6); (try clear c7); (try clear c7b0); (try clear c7b1); (try clear c8); (try clear c8b0); (try clear c8b1); (try clear c11); (try clear c11b0); (try clear c12); (try clear c12b0); (try clear c13); (try clear c13b0); (try clear c15); (try clear c18); (try clear c18b0); (try clear c19); (try clear c19b0); (try clear c20); (try clear c20b0); (try clear c21); (try clear c21b0); (try clear c22); (try clear c22b0); (try clear c23); (try clear c23b0); (try clear p24); (try clear q24); (try clear c32); (try clear c32b0); (try clear c32b1); (try clear c33); (try clear c33b0); (try clear c33b1); (try clear c36); (try clear c36b0); (try clear c38); (try clear c38b0); (try clear c39); (try clear c39b0); (try clear c40); (try clear c40b0); (try clear c41); (try clear c41b0); (try clear c41b1); (try clear c42); (try clear c42b0); (try clear c46); (try clear c46b0); (try clear c47); (try clear c47b0); (try clear hcz16_0); (try clear hcz25_0); (try clear hcz29_0); (try clear hcz30_0); (try clear hcz4_0); (try clear hfz16_0); (try clear hfz25_0); (try clear hfz29_0); (try clear hfz30_0); (try clear hfz4_0); (try clear hx105_0); (try clear hx105_1); (try clear hx105_2); (try clear hx105_3); (try clear hx105_4); (try clear hx107_0); (try clear hx107_1); (try clear hx107_2); (try clear hx107_3); (try clear hx107_4); (try clear hx108_0); (try clear hx108_1); (try clear hx108_2); (try clear hx108_3); (try clear hx108_4); (try clear hx109_0); (try clear hx110_0); (try clear hx115_0); (try clear hx116_0); (try clear hx117_0); (try clear hx24_0); (try clear p105); (try clear p107); (try clear p108); (try clear p109); (try clear p110); (try clear p115); (try clear p116); (try clear p117); (try clear p24); (try clear q105); (try clear q107); (try clear q108); (try clear q109); (try clear q110); (try clear q115); (try clear q116); (try clear q117); (try clear q24); obtain ⟨kq, x84_36, rfl, HA, HJ36, HO_4, HO_7, BK101, HB⟩ := hcut
               cases kq with
               | zero => exact absurd HA.o (by simp [spec_RxOk.j4])
               | succ kj36 =>
                have H := HA.o; clear HA
                simp only [spec_RxOk.j4] at H
                by_cases c49 : x84_36 = true
                ·subst c49; rw [if_pos rfl] at H; obtain rfl := Option.some.inj H
                 go_wp2
                 go_ret
                 exact ⟨rt_, be1_ HB.o GE101.o⟩
                ·replace c49 := Bool.eq_false_iff.mpr c49; subst c49; rw [if_neg nft_] at H
                 have H' := q_ H
                 clear H
                 go_wp2
                 go_loopg [9] kj36 (fun kq v9 w' => ∃ (x7_5 : List Int) (x9_5 : Int), v9 = .int .i64 x9_5 ∧ J0 (spec_RxOk.l3 kq (l0_0.length : Int) x4_2 x7_5 x8_3 x9_5 l0_0 = some r) ∧ J0 (kq ≤ kj36) ∧ J0 (Kd.R (Kd.int .i64) 3 w' w.heap.size (fun k_ => some k_ ≠ (v113 : Value).ownBlock) v103 x4_2) ∧ J0 (Kd.R (Kd.int .i64) 3 w' w.heap.size (fun k_ => some k_ ≠ (v103 : Value).ownBlock) v113 x7_5) ∧ J0 (w'.heap[gb101]? = some (.cells #[(.slice A0_0 l0_0.length c0_0)] 58 (0, 0))) ∧ J0 (Below w.heap.size w w'))
                 case atStart => exact ⟨(x7_3), (0), rs_, H', ⟨Nat.le_refl _⟩, ⟨ra_ HO_4.o⟩, ⟨ra_ HO_7.o⟩, ⟨bk_ BK101.o⟩, ⟨be1_ HB.o GE101.o⟩⟩
                 case round =>
                  clear H'; (try clear c5); (try clear c5b0); (try clear c5b1); (try clear c6); (try clear c7); (try clear c7b0); (try clear c7b1); (try clear c8); (try clear c8b0); (try clear c8b1); (try clear c11); (try clear c11b0); (try clear c12); (try clear c12b0); (try clear c13); (try clear c13b0); (try clear c15); (try clear c18); (try clear c18b0); (try clear c19); (try clear c19b0); (try clear c20); (try clear c20b0); (try clear c21); (try clear c21b0); (try clear c22); (try clear c22b0); (try clear c23); (try clear c23b0); (try clear p24); (try clear q24); (try clear c32); (try clear c32b0); (try clear c32b1); (try clear c33); (try clear c33b0); (try clear c33b1); (try clear c36); (try clear c36b0); (try clear c38); (try clear c38b0); (try clear c39); (try clear c39b0); (try clear c40); (try clear c40b0); (try clear c41); (try clear c41b0); (try clear c41b1); (try clear c42); (try clear c42b0); (try clear c46); (try clear c46b0); (try clear c47); (try clear c47b0); (try clear c49); (try clear hcz16_0); (try clear hcz25_0); (try clear hcz29_0); (try clear hcz30_0); (try clear hcz4_0); (try clear hfz16_0); (try clear hfz25_0); (try clear hfz29_0); (try clear hfz30_0); (try clear hfz4_0); (try clear hx105_0); (try clear hx105_1); (try clear hx105_2); (try clear hx105_3); (try clear hx105_4); (try clear hx107_0); (try clear hx107_1); (try clear hx107_2); (try clear hx107_3); (try clear hx107_4); (try clear hx108_0); (try clear hx108_1); (try clear hx108_2); (try clear hx108_3); (try clear hx108_4); (try clear hx109_0); (try clear hx110_0); (try clear hx115_0); (try clear hx116_0); (try clear hx117_0); (try clear hx24_0); (try clear p105); (try clear p107); (try clear p108); (try clear p109); (try clear p110); (try clear p115); (try clear p116); (try clear p117); (try clear p24); (try clear q105); (try clear q107); (try clear q108); (try clear q109); (try clear q110); (try clear q115); (try clear q116); (try clear q117); (try clear q24); obtain ⟨x7_5, x9_5, rfl, HA, HK5, HO_4, HO_7, BK101, HB⟩ := hrel
                  cases gk with
                  | zero => exact absurd HA.o (by simp [spec_RxOk.l3])
                  | succ k5 =>
                   have H := HA.o; clear HA
                   simp only [spec_RxOk.l3] at H
                   by_cases c50 : 0 ≤ x8_3
                   ·rw [if_pos c50] at H; have c50b0 := dt_ c50; clear c50
                    by_cases c51 : x8_3 < (l0_0.length : Int)
                    ·rw [if_pos c51] at H; have c51b0 := dt_ c51; clear c51
                     by_cases c52 : x9_5 < (((rd_T121 l0_0 x8_3).f2).length : Int)
                     ·rw [if_pos c52] at H; have c52b0 := dt_ c52; clear c52
                      by_cases c53 : 0 ≤ x9_5
                      ·rw [if_pos c53] at H; have c53b0 := dt_ c53; clear c53
                       by_cases c54 : x8_3 < (x7_5.length : Int)
                       ·rw [if_pos c54] at H; have c54b0 := dt_ c54; clear c54
                        by_cases c55 : 0 ≤ (rd ((rd_T121 l0_0 x8_3).f2) x9_5)
                        ·rw [if_pos c55] at H; have c55b0 := dt_ c55; clear c55
                         by_cases c56 : (rd ((rd_T121 l0_0 x8_3).f2) x9_5) < (x7_5.length : Int)
                         ·rw [if_pos c56] at H; have c56b0 := dt_ c56; clear c56
                          obtain ⟨y122, hy122⟩ : ∃ y_ : List Int, y_ = (x7_5.set ((rd ((rd_T121 l0_0 x8_3).f2) x9_5) : Int).toNat (wrap64 ((rd x7_5 x8_3) + 1))) := ⟨_, rfl⟩
                          replace H : (spec_RxOk.l3 k5 (l0_0.length : Int) x4_2 y122 x8_3 (wrap64 (x9_5 + 1)) l0_0) = some r := by first | (rw [hy122]; with_reducible exact H) | (have H2_ := (Option.bind_some _ _).symm.trans H; rw [hy122]; with_reducible exact H2_) | (have H2_ := (Option.bind_some _ _).symm.trans H; with_reducible exact H2_) | with_reducible exact H | (rw [hy122]; exact H) | exact H
                          have Ny122 := q_ hy122; clear hy122
                          have H' := q_ H
                          clear H; obtain ⟨hcz58_0, hfz58_0⟩ := d1_ BK101
                          have p118 : 0 ≤ (x8_3 : Int) := of_decide_eq_true as_
                          have q118 : x8_3 < (l0_0.length : Int) := of_decide_eq_true as_
                          obtain ⟨ad118, A118_1, c118_1, A118_2, c118_2, e118, hx118_0, hx118_1, hx118_2, hx118_3, hx118_4, hl118_1, hi118_1, hl118_2, hi118_2⟩ := at_T121 HR0_0.o x8_3 p118 q118
                          cases e118
                          replace hx118_0 := mv_ HB.o hx118_0; replace hx118_1 := mv_ HB.o hx118_1; replace hx118_2 := mv_ HB.o hx118_2; replace hx118_3 := mv_ HB.o hx118_3; replace hx118_4 := mv_ HB.o hx118_4; have HR118_1 := q_ hi118_1; have HC118_1 := q_ hl118_1; clear hi118_1 hl118_1; have HR118_2 := q_ hi118_2; have HC118_2 := q_ hl118_2; clear hi118_2 hl118_2; replace p118 := eq_true p118; replace q118 := eq_true q118
                          try go_wp2
                          replace HO_4 := q_ (Kd.R_drew HO_4.o); replace HO_7 := q_ (Kd.R_drew HO_7.o); replace BK101 := q_ (blk_drew BK101.o); replace HB := q_ (below_drew1 HB.o)
                          have p119 : 0 ≤ (x8_3 : Int) := of_decide_eq_true as_
                          have q119 : x8_3 < (l0_0.length : Int) := of_decide_eq_true as_
                          obtain ⟨ad119, A119_1, c119_1, A119_2, c119_2, e119, hx119_0, hx119_1, hx119_2, hx119_3, hx119_4, hl119_1, hi119_1, hl119_2, hi119_2⟩ := at_T121 HR0_0.o x8_3 p119 q119; have hw119_4 := hx119_4; have hw119_3 := hx119_3; have hw119_2 := hx119_2; have hw119_1 := hx119_1; have hw119_0 := hx119_0
                          obtain rfl : ad118 = ad119 := (by injection e119)
                          replace hx119_0 := mv_ HB.o hx119_0; replace hx119_1 := mv_ HB.o hx119_1; replace hx119_2 := mv_ HB.o hx119_2; replace hx119_3 := mv_ HB.o hx119_3; replace hx119_4 := mv_ HB.o hx119_4; have HR119_1 := q_ hi119_1; have HC119_1 := q_ hl119_1; clear hi119_1 hl119_1; have HR119_2 := q_ hi119_2; have HC119_2 := q_ hl119_2; clear hi119_2 hl119_2; replace p119 := eq_true p119; replace q119 := eq_true q119
                          have p120 : 0 ≤ (x9_5 : Int) := of_decide_eq_true as_
                          have q120 : x9_5 < (((rd_T121 l0_0 x8_3).f2).length : Int) := of_decide_eq_true as_
                          obtain ⟨ad120, e120, hx120_0⟩ := Kd.at_int HR119_2.o x9_5 p120 q120; have hw120_0 := hx120_0
                          cases e120
                          replace hx120_0 := mv_ HB.o hx120_0; replace p120 := eq_true p120; replace q120 := eq_true q120; obtain ⟨Ao60, co60, eo60⟩ := Kd.R_slice HO_7.o
                          (first | subst eo60 | (injection eo60 with f1_ f2_ f3_; have f4_ := f1_.symm; have f5_ := f3_.symm; clear f1_ f2_ f3_; subst f4_; subst f5_))
                          have p121 : 0 ≤ (x8_3 : Int) := of_decide_eq_true as_
                          have q121 : x8_3 < (x7_5.length : Int) := of_decide_eq_true as_
                          obtain ⟨ad121, e121, hx121_0⟩ := Kd.at_int (Kd.R_reads' HO_7.o).2.2 x8_3 p121 q121
                          cases e121
                          replace p121 := eq_true p121; replace q121 := eq_true q121
                          have p57 : 0 ≤ ((rd ((rd_T121 l0_0 x8_3).f2) x9_5) : Int) := of_decide_eq_true as_
                          have q57 : ((rd ((rd_T121 l0_0 x8_3).f2) x9_5) : Int) < ((x7_5.length : Int) : Int) := of_decide_eq_true as_
                          obtain ⟨go57, co57, eo57, gb57, gl57, cl57, HG57⟩ := Kd.R_form HO_7.o (by omega)
                          (first | cases eo57 | (injection eo57 with ea_ en_ ec_; (first | subst ea_ | (injection ea_ with ea_; subst ea_)); subst ec_; clear en_))
                          have GB57 := q_ gb57; have GG57 := q_ HG57; clear gb57 gl57 HG57
                          (first | simp only [add_plain] at hx121_0 | skip)
                          obtain ⟨hx57_0, hf57_0⟩ := Kd.R_celln 0 HO_7.o ((rd ((rd_T121 l0_0 x8_3).f2) x9_5) : Int) p57 q57; replace p57 := eq_true p57; replace q57 := eq_true q57; have HP61 := Kd.R_putn HO_7.o ((rd ((rd_T121 l0_0 x8_3).f2) x9_5) : Int) (wrap64 ((rd x7_5 x8_3) + 1))
                          rw [← Ny122.o] at HP61
                          have HQ61 := q_ HP61; clear HP61
                          refine start_ (n := 17) (S := fun w' => w'.cell? ⟨gb101, 0, none⟩ = some (.slice (some ad118) l0_0.length c0_0) ∧ w'.cell? (ad118.add ((x8_3).toNat * 5)) = some (.int .i64 ((rd_T121 l0_0 x8_3).f0)) ∧ w'.cell? ⟨(ad118.add ((x8_3).toNat * 5)).block, (ad118.add ((x8_3).toNat * 5)).off + 1, none⟩ = some (.slice A119_1 ((rd_T121 l0_0 x8_3).f1).length c119_1) ∧ w'.cell? ⟨(ad118.add ((x8_3).toNat * 5)).block, (ad118.add ((x8_3).toNat * 5)).off + 2, none⟩ = some (.slice (some ad120) ((rd_T121 l0_0 x8_3).f2).length c119_2) ∧ w'.cell? ⟨(ad118.add ((x8_3).toNat * 5)).block, (ad118.add ((x8_3).toNat * 5)).off + 3, none⟩ = some (.int .i64 ((rd_T121 l0_0 x8_3).f3)) ∧ w'.cell? ⟨(ad118.add ((x8_3).toNat * 5)).block, (ad118.add ((x8_3).toNat * 5)).off + 4, none⟩ = some (.int .i64 ((rd_T121 l0_0 x8_3).f4)) ∧ w'.cell? (ad120.add (x9_5).toNat) = some (.int .i64 (rd ((rd_T121 l0_0 x8_3).f2) x9_5)) ∧ w'.cell? ⟨go57, (x8_3).toNat, none⟩ = some (.int .i64 (rd x7_5 x8_3))) (ds := [16]) (bb 17 0) (by kernel_rfl) rfl rfl ⟨(blk_cell BK101.o 0).trans rfl, (mv_ HB.o hw119_0), (mv_ HB.o hw119_1), (mv_ HB.o hw119_2), (mv_ HB.o hw119_3), (mv_ HB.o hw119_4), (mv_ HB.o hw120_0), hx121_0⟩ (fun hHeld => ?_); refine with_tabW spec_RxOk.tab23 spec_RxOk.bits23 (fun HT_ HW_ => ?_)
                          generalize wr.drew = w59 at HO_4 HO_7 BK101 HB GG57 HQ61 HR119_1 HR119_2 hf57_0 hx119_0 hx119_1 hx119_2 hx119_3 hx119_4 hx120_0 hx121_0 hx57_0 hHeld ⊢
                          refine pv_ 0 96 1 HT_.o ?_; refine pv_ 1 97 3 HT_.o ?_; refine pv_ 3 99 11 HT_.o ?_; refine pv_ 7 103 139 HT_.o ?_; refine pv_ 10 106 1163 HT_.o ?_; refine pv_ 11 107 3211 HT_.o ?_; refine pv_ 12 108 7307 HT_.o ?_; refine tv_ 2 98 7311 HT_.o HW_.o hHeld ?_; refine pv_ 4 100 7327 HT_.o ?_; refine pv_ 5 101 7359 HT_.o ?_; refine tv_ 6 102 7423 HT_.o HW_.o hHeld ?_; refine pv_ 8 104 7679 HT_.o ?_; refine tv_ 9 105 8191 HT_.o HW_.o hHeld ?_; refine tv_ 13 109 16383 HT_.o HW_.o hHeld ?_; refine pv_ 14 110 32767 HT_.o ?_; refine pv_ 15 111 65535 HT_.o ?_
                          refine last_ (i := 16) (N := none) (bb 17 131071) rfl rfl (one_of HT_.o (by kernel_rfl)) (by decide) (fun K hK => ?_)
                          refine skip_ (w1 := ?_) (by rfl) rfl ?_ ?_
                          rotate_left
                          ·go_simp
                           rfl
                          refine hK.out _ _ ?_
                          clear hK K
                          refine done_ (done_of HT_.o (by kernel_rfl)) ?_
                          try go_wp2
                          go_roundg k5
                          case measure => have := HJ1.o; have := HK2.o; have := HK3.o; have := HJ36.o; have := HK5.o; omega
                          case rel => exact ⟨(y122), (wrap64 (x9_5 + 1)), rs_, H', ⟨by have := HJ1.o; have := HK2.o; have := HK3.o; have := HJ36.o; have := HK5.o; omega⟩, ⟨by (with_reducible repeat (first | apply Kd.R_alloc | apply Kd.R_drewN | apply Kd.R_drew)); exact Kd.R_mono (Kd.R_far (p := ⟨go57, ((rd ((rd_T121 l0_0 x8_3).f2) x9_5) : Int).toNat, none⟩) (Kd.R_mono HO_4.o (fun k_ hk => (⟨hk, fun e_ => hk (by rw [e_]; rfl)⟩ : _ ∧ k_ ≠ go57))) (fun _ hk => hk.2) (.int .i64 (wrap64 ((rd x7_5 x8_3) + 1)))) (fun _ hk => hk.1)⟩, ⟨ra_ HQ61.o⟩, ⟨by (with_reducible repeat (first | refine blk_drewN ?_ _ | refine blk_drew ?_ | refine blk_alloc ?_ _)); refine blk_far ?_ (by have h_ := Kd.R_ne HO_7.o BK101.o (by decide); intro e_; exact h_ (by rw [e_]; rfl)) _; (with_reducible repeat (first | refine blk_drewN ?_ _ | refine blk_drew ?_ | refine blk_alloc ?_ _)); exact BK101.o⟩, ⟨be2_ HB.o GB57.o GE101.o⟩⟩
                         ·rw [if_neg c56] at H
                          exact absurd H (by simp)
                        ·rw [if_neg c55] at H
                         exact absurd H (by simp)
                       ·rw [if_neg c54] at H
                        exact absurd H (by simp)
                      ·rw [if_neg c53] at H
                       exact absurd H (by simp)
                     ·rw [if_neg c52] at H; have c52b0 := df_ c52; clear c52
                      have H' := q_ H
                      clear H; obtain ⟨hcz62_0, hfz62_0⟩ := d1_ BK101
                      have p118 : 0 ≤ (x8_3 : Int) := of_decide_eq_true as_
                      have q118 : x8_3 < (l0_0.length : Int) := of_decide_eq_true as_
                      obtain ⟨ad118, A118_1, c118_1, A118_2, c118_2, e118, hx118_0, hx118_1, hx118_2, hx118_3, hx118_4, hl118_1, hi118_1, hl118_2, hi118_2⟩ := at_T121 HR0_0.o x8_3 p118 q118
                      cases e118
                      replace hx118_0 := mv_ HB.o hx118_0; replace hx118_1 := mv_ HB.o hx118_1; replace hx118_2 := mv_ HB.o hx118_2; replace hx118_3 := mv_ HB.o hx118_3; replace hx118_4 := mv_ HB.o hx118_4; have HR118_1 := q_ hi118_1; have HC118_1 := q_ hl118_1; clear hi118_1 hl118_1; have HR118_2 := q_ hi118_2; have HC118_2 := q_ hl118_2; clear hi118_2 hl118_2; replace p118 := eq_true p118; replace q118 := eq_true q118
                      go_wp2
                      go_roundg k5
                      case measure => have := HJ1.o; have := HK2.o; have := HK3.o; have := HJ36.o; have := HK5.o; omega
                      case rel => exact ⟨(x7_5), (wrap64 (x8_3 - 1)), rs_, H', ⟨by have := HJ1.o; have := HK2.o; have := HK3.o; have := HJ36.o; have := HK5.o; omega⟩, ⟨ra_ HO_4.o⟩, ⟨ra_ HO_7.o⟩, ⟨bk_ BK101.o⟩, ⟨be1_ HB.o GE101.o⟩⟩
                    ·rw [if_neg c51] at H
                     exact absurd H (by simp)
                   ·rw [if_neg c50] at H
                    exact absurd H (by simp)
             ·rw [if_neg c36] at H
              have c36b0 : decide (0 ≤ x8_3) = false := df_ c36
              clear c36; obtain rfl := Option.some.inj H
              go_wp2
              go_ret
              exact ⟨rt_, be1_ HB.o GE101.o⟩
          ·rw [if_neg c33] at H
           exact absurd H (by simp)
         ·rw [if_neg c32] at H
          exact absurd H (by simp)
     ·rw [if_neg c8] at H
      exact absurd H (by simp)
    ·rw [if_neg c7] at H
     exact absurd H (by simp)
/-! ### impl_RNode: function 85 -/
def impl_RNode.f (l0 : List (S121)) : Option (Int) := some (l0.length : Int)
theorem impl_RNode.calls (A0 : Option Addr) (c0 : Nat) (l0 : List (S121)) (r : Int) (w : World) (hr0 : Kd.C k121 w A0 l0.length l0) (hc0 : l0.length ≤ c0) (h : impl_RNode.f l0 = some r) :
  Calls Tryz.prog 85 #[.slice A0 l0.length c0] w fun e w' => e = .returned (.int .i64 r) ∧ Drawn0 w w' := by
 have HR0 := q_ hr0; have HC0 := q_ hc0; clear hr0 hc0
 have H : (some (l0.length : Int)) = some r := h
 clear h; obtain rfl := Option.some.inj H
 go_enter Tryz.func85, Tryz.ntmps85
 go_wp2
 go_ret
 exact ⟨by first | rfl | (simp; done) | (simp [*]; done), by repeat (first | exact Drawn0.refl _ | apply Drawn0.step)⟩
end Go.Proofs.YtijmhelacmjggaaGreat.P
namespace Go.Proofs.YtijmhelacmjggaaGreat.P
open Go.RowKit Go.Shelf Go.Proofs.YtijmhelacmjggaaGreatW.PrintWords Go.Proofs.YtijmhelacmjggaaGreatW.PrintLast Go.Proofs.YtijmhelacmjggaaGreatW.PrintMore Go.Proofs.YtijmhelacmjggaaGreatEv
set_option linter.unusedVariables false
set_option linter.unusedSimpArgs false
theorem IndexFunc_int (g : Nat) (lb : Array Value) (eg : ∀ args w, (callFunc g args).run Tryz.prog w = .ok (.enter g args) w) (p : Int → Bool) (A0 : Option Addr) (c0 : Nat) (l0 : List Int) (w : World) (hr0 : Kd.C (Kd.int .i64) w A0 l0.length l0)
    (hp : ∀ (n : Nat) (x : Int), x ∈ l0 → Calls Tryz.prog g (#[.int .i64 x] ++ lb) (w.drewN n) fun e w' => e = .returned (.bool (p x)) ∧ ∃ m, w' = (w.drewN n).drewN m) :
    Calls Tryz.prog 111 #[.slice A0 l0.length c0, .func (.func g) #[] lb] w fun e w' => e = .returned (.int .i64 (idxP p l0 0)) ∧ Drawn0 w w' := by
  have hn := hr0.2.1
  have HP := Lib.hid hp
  clear hp
  have HR := q_ hr0
  clear hr0
  go_enter Tryz.func111, Tryz.ntmps111
  go_wp2
  go_loopg [5, 8] l0.length (fun gg _ s8 wr => ∃ kk nd : Nat, kk ≤ l0.length ∧ l0.length - kk ≤ gg ∧ s8 = .int .i64 kk ∧ wr = w.drewN nd ∧ J0 (idxP p l0 0 = idxP p (l0.drop kk) kk))
  case atStart => exact ⟨0, 0, Nat.zero_le _, by omega, rfl, rfl, ⟨by simp⟩⟩
  case round =>
    obtain ⟨kk, nd, hkk, hg, rfl, rfl, HA⟩ := hrel
    by_cases hlt : kk < l0.length
    · have hltz : (kk : Int) < (l0.length : Int) := by omega
      obtain ⟨ad, rfl, hx0⟩ := Kd.at_int HR.o (kk : Int) (by omega) hltz
      rw [Int.toNat_natCast] at hx0
      have hmem : rd l0 (kk : Int) ∈ l0 := by
        unfold rd
        rw [List.getD_eq_getElem?_getD, List.getElem?_eq_getElem (by simpa using hlt)]
        exact List.getElem_mem _
      have hcall := HP.out nd (rd l0 (kk : Int)) hmem
      have hstep : J0 (idxP p l0 0 = if p (rd l0 (kk : Int)) then (kk : Int) else idxP p (l0.drop (kk + 1)) ((kk + 1 : Nat) : Int)) := ⟨by
        rw [HA.o, drop_cons l0 0 kk hlt]
        have hr : l0.getD kk 0 = rd l0 (kk : Int) := by simp [rd]
        rw [hr]
        rfl⟩
      clear hmem
      generalize rd l0 (kk : Int) = y at *
      cases hq : p y with
      | true =>
        rw [hq] at hcall
        have hs2 : J0 (idxP p l0 0 = (kk : Int)) := ⟨by rw [hstep.o, hq]; rfl⟩
        clear hstep hq HA
        go_wp2_with (go_at_fn g; refine hcall.mono ?_; rintro e w' ⟨rfl, m, rfl⟩)
        go_ret
        exact ⟨by (rw [hs2.o]; try rfl), by repeat (first | exact Drawn0.refl _ | apply Drawn0.step)⟩
      | false =>
        rw [hq] at hcall
        have hs2 : J0 (idxP p l0 0 = idxP p (l0.drop (kk + 1)) ((kk + 1 : Nat) : Int)) := ⟨by rw [hstep.o, hq]; rfl⟩
        clear hstep hq HA
        go_wp2_with (go_at_fn g; refine hcall.mono ?_; rintro e w' ⟨rfl, m, rfl⟩)
        go_roundg (l0.length - (kk + 1))
        case measure => omega
        case rel => exact ⟨kk + 1, _, by omega, by omega, by go_num, by first | rfl | exact World.drewN_drewN _ _ _, hs2⟩
    · have hltz : ¬ (kk : Int) < (l0.length : Int) := by omega
      have hk : kk = l0.length := by omega
      have hs2 : J0 (idxP p l0 0 = -1) := ⟨by rw [HA.o, hk]; simp [idxP]⟩
      clear hk HA
      go_wp2
      go_ret
      exact ⟨by (rw [hs2.o]; try rfl), by repeat (first | exact Drawn0.refl _ | apply Drawn0.step)⟩
theorem ContainsFunc_int (g : Nat) (lb : Array Value) (eg : ∀ args w, (callFunc g args).run Tryz.prog w = .ok (.enter g args) w) (p : Int → Bool) (A0 : Option Addr) (c0 : Nat) (l0 : List Int) (w : World) (hr0 : Kd.C (Kd.int .i64) w A0 l0.length l0)
    (hp : ∀ (n : Nat) (x : Int), x ∈ l0 → Calls Tryz.prog g (#[.int .i64 x] ++ lb) (w.drewN n) fun e w' => e = .returned (.bool (p x)) ∧ ∃ m, w' = (w.drewN n).drewN m) :
    Calls Tryz.prog 102 #[.slice A0 l0.length c0, .func (.func g) #[] lb] w fun e w' => e = .returned (.bool (l0.any p)) ∧ Drawn0 w w' := by
  have hc := IndexFunc_int g lb eg p A0 c0 l0 w hr0 hp
  have ha : l0.any p = decide (0 ≤ idxP p l0 0) := by
    rw [Bool.eq_iff_iff, decide_eq_true_iff, idxP_ge p l0 0 (by omega)]
  rw [ha]
  clear ha hr0 hp
  generalize idxP p l0 0 = i at hc ⊢
  go_enter Tryz.func102, Tryz.ntmps102
  go_wp2_with (go_at_call 111; refine hc.mono ?_; rintro e w' ⟨rfl, ⟨nd, rfl⟩⟩)
  go_ret
  exact ⟨rfl, by repeat (first | exact Drawn0.refl _ | apply Drawn0.step)⟩
end Go.Proofs.YtijmhelacmjggaaGreat.P
