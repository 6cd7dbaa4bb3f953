/- The law FnExactGrammarOk holds for every call: part 3 of 6 of the proof (walks of functions, and what they answer). Conditions: none beyond what the given row says. -/
import Derived.Test.YtijmhelacmjggaaMFnExactGrammarOk1
import Derived.Test.YtijmhelacmjggaaMFnExactGrammarOk0
import Derived.Shelf.Abstract
import Derived.Lib.Hide
/- The walk of the memo's find, where a region draws no order. -/
namespace Go.Proofs.Ytijmhelacmjggaa.P
open Go.RowKit Go.Shelf Go.Proofs.YtijmhelacmjggaaW.PrintWords Go.Proofs.YtijmhelacmjggaaW.PrintLast Go.Proofs.YtijmhelacmjggaaW.PrintMore Go.Proofs.YtijmhelacmjggaaEv
set_option linter.unusedVariables false
set_option linter.unusedSimpArgs false
set_option maxHeartbeats 16000000 in
set_option maxRecDepth 100000 in
theorem find_empty {w0 : World} {gm gg cn : Nat} {An : Option Addr} {nodes : List S156} {tx : ByteArray} {E : Nat → Bool} (ht : tx.size = 0) (hn : nodes.length ≤ 100000) (k : Nat) (hk1 : k < nodes.length) (hN : Kd.C k156 w0 An nodes.length nodes) (hop : (rd_T156 nodes (k : Int)).f0 = 1) (hE : E k = true) : FOK w0 gm gg An cn nodes tx E k := by
  intro w hM hB
  obtain ⟨ad, A1, c1, A2, c2, rfl, hx0, hx1, hx2, hx3, hx4, _, _, hc2, hC2⟩ := at_T156 hN (k : Int) (by omega) (by omega)
  rw [Int.toNat_natCast] at hx0 hx1 hx2 hx3 hx4
  replace hx0 := (hB.cell (World.block_lt_of_cell? w0 _ hx0)).trans hx0
  replace hx1 := (hB.cell (World.block_lt_of_cell? w0 _ hx1)).trans hx1
  replace hx2 := (hB.cell (World.block_lt_of_cell? w0 _ hx2)).trans hx2
  replace hx3 := (hB.cell (World.block_lt_of_cell? w0 _ hx3)).trans hx3
  replace hx4 := (hB.cell (World.block_lt_of_cell? w0 _ hx4)).trans hx4
  obtain ⟨x, hxd⟩ : ∃ x, rd_T156 nodes (k : Int) = x := ⟨_, rfl⟩
  rw [hxd] at hx0 hx1 hx2 hx3 hx4 hc2 hC2 hop
  rw [hop] at hx0
  clear hxd
  skip
  obtain ⟨cg, hG, hcg, hgm⟩ := Memo.head hM
  have hm0 : w.cell? ⟨gm, 0, none⟩ = some (.slice (some ad) nodes.length cn) := (blk_cell hG 0).trans rfl
  have hm1 : w.cell? ⟨gm, 1, none⟩ = some (.string tx) := (blk_cell hG 1).trans rfl
  have ha1 : (w.alloc (.cells #[.int .i64 1, .slice A1 x.f1.length c1, .slice A2 x.f2.length c2, .int .i64 x.f3, .int .i64 x.f4] 156)).cell? ⟨gm, 1, none⟩ = some (.string tx) := (blk_cell (blk_alloc hG _) 1).trans rfl
  have hkz : (k : Int) < (nodes.length : Int) := by omega
  have hk0 : (0 : Int) ≤ (k : Int) := by omega
  obtain ⟨gn, hgn⟩ : ∃ gn, w.heap.size = gn := ⟨_, rfl⟩
  have HGN : Aside0 (gn ≠ gg) := ⟨by have := Memo.gg_lt hM; omega⟩
  have BN : Aside0 ((w.alloc (.cells #[.int .i64 1, .slice A1 x.f1.length c1, .slice A2 x.f2.length c2, .int .i64 x.f3, .int .i64 x.f4] 156)).heap[gn]? = some (.cells #[.int .i64 1, .slice A1 x.f1.length c1, .slice A2 x.f2.length c2, .int .i64 x.f3, .int .i64 x.f4] 156 (0, 0))) := ⟨by rw [← hgn]; exact blk_new w _⟩
  have HK := Aside0.mk (MK.below (gg := gg) (below_alloc (Below.refl w.heap.size w) (.cells #[.int .i64 1, .slice A1 x.f1.length c1, .slice A2 x.f2.length c2, .int .i64 x.f3, .int .i64 x.f4] 156)))
  have HB := Aside0.mk (below_alloc hB (.cells #[.int .i64 1, .slice A1 x.f1.length c1, .slice A2 x.f2.length c2, .int .i64 x.f3, .int .i64 x.f4] 156))
  have HM := Aside0.mk (Memo.below hM (below_alloc (Below.refl w.heap.size w) (.cells #[.int .i64 1, .slice A1 x.f1.length c1, .slice A2 x.f2.length c2, .int .i64 x.f3, .int .i64 x.f4] 156)))
  have HE := Aside0.mk hE
  clear hG hM hB hE
  go_enter Try.func157, Try.ntmps157
  go_upto_region 5 with (first | ((with_reducible refine gate_dst (N := 26) rfl ?_); refine Kd.R_make Kd.bool _ 4 rfl (N := 26) rfl 124 _ _ rfl (1 : Int) rfl rfl Try.underlying124 (.bool false) 1 info4 rfl (by decide) (by omega) false (ok := fun _ => True) (okp := fun _ => True) rfl (fun _ hk => hk) trivial (by omega) (by decide) (Below.refl _ _) (Nat.le_refl _) ?_; intro H8v w_ ho hb hg_ hnew_; clear hg_; replace ho : Kd.R Kd.bool 4 w_ _ (fun _ => True) H8v [false] := ho; have H8 := Aside0.mk (Row.new ho HB.out (Memo.gg_lt HM.out)); have nBN := Aside0.mk (blk_below BN.out hb); clear BN; have BN := nBN; clear nBN; have nM := Aside0.mk (Memo.below HM.out hb); have nB := Aside0.mk (below_step HB.out hb); have nK := Aside0.mk (HK.out.trans (MK.below hb)); clear HM HB HK ho hb hnew_; have HM := nM; have HB := nB; have HK := nK; clear nM nB nK; obtain ⟨cg_, hG_, _, _⟩ := Memo.head HM.out; have ha2 : w_.cell? ⟨gm, 1, none⟩ = some (.string tx) := (blk_cell hG_ 1).trans rfl; clear hG_) | ((with_reducible refine gate_dst (N := 33) rfl ?_); refine Kd.R_make Kd.bool _ 4 rfl (N := 33) rfl 124 _ _ rfl (1 : Int) rfl rfl Try.underlying124 (.bool false) 1 info4 rfl (by decide) (by omega) false (ok := fun _ => True) (okp := fun _ => True) rfl (fun _ hk => hk) trivial (by omega) (by decide) (Below.refl _ _) (Nat.le_refl _) ?_; intro H9v w_ ho hb hg_ hnew_; clear hg_; replace ho : Kd.R Kd.bool 4 w_ _ (fun _ => True) H9v [false] := ho; have H9 := Aside0.mk (Row.new ho HB.out (Memo.gg_lt HM.out)); have HX1 : ∃ W1 : World, Memo w0 gm gg (some ad) cn nodes tx E W1 ∧ Row w0 W1 gg H8v false ∧ W1.heap[gn]? = some (.cells #[.int .i64 1, .slice A1 x.f1.length c1, .slice A2 x.f2.length c2, .int .i64 x.f3, .int .i64 x.f4] 156 (0, 0)) ∧ Below W1.heap.size W1 w_ ∧ (∃ b_, H9v.ownBlock = some b_ ∧ W1.heap.size ≤ b_) ∧ Below w0.heap.size w0 W1 ∧ MK gg w W1 := ⟨_, HM.out, H8.out, BN.out, hb, hnew_, HB.out, HK.out⟩; have nH8 := Aside0.mk (Row.keep H8.out (MK.below hb)); clear H8; have H8 := nH8; clear nH8; have nBN := Aside0.mk (blk_below BN.out hb); clear BN; have BN := nBN; clear nBN; have nM := Aside0.mk (Memo.below HM.out hb); have nB := Aside0.mk (below_step HB.out hb); have nK := Aside0.mk (HK.out.trans (MK.below hb)); clear HM HB HK ho hb hnew_; have HM := nM; have HB := nB; have HK := nK; clear nM nB nK; obtain ⟨H9g, H9c, rfl, H9h⟩ := Row.form H9.out; have hx9 := Row.cell H9.out; have hf9 := Row.frozen H9.out))
  obtain ⟨W1, hM1, h81, hBN1, hb1, ⟨g9', e9, hg9⟩, hB1, hK1⟩ := HX1
  obtain rfl : H9g = g9' := by simpa [Value.ownBlock] using e9
  have Hbs := below_set hb1 hg9 (j := 0) (v := .bool true)
  have nH9 := Aside0.mk ((Kd.R_put H9.out 0 true).1)
  clear H8 H9 HM HB HK BN
  have HM := Aside0.mk (Memo.below hM1 Hbs)
  have H8 := Aside0.mk (Row.keep h81 (MK.below (gg := gg) Hbs))
  have HK := Aside0.mk (hK1.trans (MK.below (gg := gg) Hbs))
  have HB := Aside0.mk (below_step hB1 Hbs)
  have BN := Aside0.mk (blk_below hBN1 Hbs)
  have H9 : Aside0 (Row w0 (w_.setCell ⟨H9g, 0, none⟩ (.bool true)) gg (.slice (some ⟨H9g, 0, none⟩) 1 H9c) true) := nH9
  clear nH9 Hbs hM1 h81 hBN1 hb1 hg9 e9 hB1 hK1 hx9 hf9
  generalize w_.setCell ⟨H9g, 0, none⟩ (.bool true) = w9 at *
  obtain ⟨H8g, H8c, rfl, hH8⟩ := Row.form H8.out
  obtain ⟨cg_, hG_, _, _⟩ := Memo.head HM.out
  have ht1 : w9.cell? ⟨gm, 1, none⟩ = some (.string tx) := (blk_cell hG_ 1).trans rfl
  clear hG_
  have hn0 : w9.cell? ⟨gn, 0, none⟩ = some (.int .i64 1) := (blk_cell BN.out 0).trans rfl
  have hn2 : w9.cell? ⟨gn, 2, none⟩ = some (.slice A2 x.f2.length c2) := (blk_cell BN.out 2).trans rfl
  have hn3 : w9.cell? ⟨gn, 3, none⟩ = some (.int .i64 x.f3) := (blk_cell BN.out 3).trans rfl
  have hn4 : w9.cell? ⟨gn, 4, none⟩ = some (.int .i64 x.f4) := (blk_cell BN.out 4).trans rfl
  go_wp2_with fail
  go_ret
  exact ⟨_, rfl, by rw [HE.out]; exact H9.out, HM.out, HK.out, HB.out⟩
set_option maxHeartbeats 16000000 in
set_option maxRecDepth 100000 in
theorem find_set {w0 : World} {gm gg cn : Nat} {An : Option Addr} {nodes : List S156} {tx : ByteArray} {E : Nat → Bool} (ht : tx.size = 0) (hn : nodes.length ≤ 100000) (k : Nat) (hk1 : k < nodes.length) (hN : Kd.C k156 w0 An nodes.length nodes) (hop : (rd_T156 nodes (k : Int)).f0 = 2) (hE : E k = false) : FOK w0 gm gg An cn nodes tx E k := by
  intro w hM hB
  obtain ⟨ad, A1, c1, A2, c2, rfl, hx0, hx1, hx2, hx3, hx4, _, _, hc2, hC2⟩ := at_T156 hN (k : Int) (by omega) (by omega)
  rw [Int.toNat_natCast] at hx0 hx1 hx2 hx3 hx4
  replace hx0 := (hB.cell (World.block_lt_of_cell? w0 _ hx0)).trans hx0
  replace hx1 := (hB.cell (World.block_lt_of_cell? w0 _ hx1)).trans hx1
  replace hx2 := (hB.cell (World.block_lt_of_cell? w0 _ hx2)).trans hx2
  replace hx3 := (hB.cell (World.block_lt_of_cell? w0 _ hx3)).trans hx3
  replace hx4 := (hB.cell (World.block_lt_of_cell? w0 _ hx4)).trans hx4
  obtain ⟨x, hxd⟩ : ∃ x, rd_T156 nodes (k : Int) = x := ⟨_, rfl⟩
  rw [hxd] at hx0 hx1 hx2 hx3 hx4 hc2 hC2 hop
  rw [hop] at hx0
  clear hxd
  skip
  obtain ⟨cg, hG, hcg, hgm⟩ := Memo.head hM
  have hm0 : w.cell? ⟨gm, 0, none⟩ = some (.slice (some ad) nodes.length cn) := (blk_cell hG 0).trans rfl
  have hm1 : w.cell? ⟨gm, 1, none⟩ = some (.string tx) := (blk_cell hG 1).trans rfl
  have ha1 : (w.alloc (.cells #[.int .i64 2, .slice A1 x.f1.length c1, .slice A2 x.f2.length c2, .int .i64 x.f3, .int .i64 x.f4] 156)).cell? ⟨gm, 1, none⟩ = some (.string tx) := (blk_cell (blk_alloc hG _) 1).trans rfl
  have hkz : (k : Int) < (nodes.length : Int) := by omega
  have hk0 : (0 : Int) ≤ (k : Int) := by omega
  obtain ⟨gn, hgn⟩ : ∃ gn, w.heap.size = gn := ⟨_, rfl⟩
  have HGN : Aside0 (gn ≠ gg) := ⟨by have := Memo.gg_lt hM; omega⟩
  have BN : Aside0 ((w.alloc (.cells #[.int .i64 2, .slice A1 x.f1.length c1, .slice A2 x.f2.length c2, .int .i64 x.f3, .int .i64 x.f4] 156)).heap[gn]? = some (.cells #[.int .i64 2, .slice A1 x.f1.length c1, .slice A2 x.f2.length c2, .int .i64 x.f3, .int .i64 x.f4] 156 (0, 0))) := ⟨by rw [← hgn]; exact blk_new w _⟩
  have HK := Aside0.mk (MK.below (gg := gg) (below_alloc (Below.refl w.heap.size w) (.cells #[.int .i64 2, .slice A1 x.f1.length c1, .slice A2 x.f2.length c2, .int .i64 x.f3, .int .i64 x.f4] 156)))
  have HB := Aside0.mk (below_alloc hB (.cells #[.int .i64 2, .slice A1 x.f1.length c1, .slice A2 x.f2.length c2, .int .i64 x.f3, .int .i64 x.f4] 156))
  have HM := Aside0.mk (Memo.below hM (below_alloc (Below.refl w.heap.size w) (.cells #[.int .i64 2, .slice A1 x.f1.length c1, .slice A2 x.f2.length c2, .int .i64 x.f3, .int .i64 x.f4] 156)))
  have HE := Aside0.mk hE
  clear hG hM hB hE
  go_enter Try.func157, Try.ntmps157
  go_upto_region 5 with (first | ((with_reducible refine gate_dst (N := 26) rfl ?_); refine Kd.R_make Kd.bool _ 4 rfl (N := 26) rfl 124 _ _ rfl (1 : Int) rfl rfl Try.underlying124 (.bool false) 1 info4 rfl (by decide) (by omega) false (ok := fun _ => True) (okp := fun _ => True) rfl (fun _ hk => hk) trivial (by omega) (by decide) (Below.refl _ _) (Nat.le_refl _) ?_; intro H8v w_ ho hb hg_ hnew_; clear hg_; replace ho : Kd.R Kd.bool 4 w_ _ (fun _ => True) H8v [false] := ho; have H8 := Aside0.mk (Row.new ho HB.out (Memo.gg_lt HM.out)); have nBN := Aside0.mk (blk_below BN.out hb); clear BN; have BN := nBN; clear nBN; have nM := Aside0.mk (Memo.below HM.out hb); have nB := Aside0.mk (below_step HB.out hb); have nK := Aside0.mk (HK.out.trans (MK.below hb)); clear HM HB HK ho hb hnew_; have HM := nM; have HB := nB; have HK := nK; clear nM nB nK; obtain ⟨cg_, hG_, _, _⟩ := Memo.head HM.out; have ha2 : w_.cell? ⟨gm, 1, none⟩ = some (.string tx) := (blk_cell hG_ 1).trans rfl; clear hG_) | ((with_reducible refine gate_dst (N := 33) rfl ?_); refine Kd.R_make Kd.bool _ 4 rfl (N := 33) rfl 124 _ _ rfl (1 : Int) rfl rfl Try.underlying124 (.bool false) 1 info4 rfl (by decide) (by omega) false (ok := fun _ => True) (okp := fun _ => True) rfl (fun _ hk => hk) trivial (by omega) (by decide) (Below.refl _ _) (Nat.le_refl _) ?_; intro H9v w_ ho hb hg_ hnew_; clear hg_; replace ho : Kd.R Kd.bool 4 w_ _ (fun _ => True) H9v [false] := ho; have H9 := Aside0.mk (Row.new ho HB.out (Memo.gg_lt HM.out)); have HX1 : ∃ W1 : World, Memo w0 gm gg (some ad) cn nodes tx E W1 ∧ Row w0 W1 gg H8v false ∧ W1.heap[gn]? = some (.cells #[.int .i64 2, .slice A1 x.f1.length c1, .slice A2 x.f2.length c2, .int .i64 x.f3, .int .i64 x.f4] 156 (0, 0)) ∧ Below W1.heap.size W1 w_ ∧ (∃ b_, H9v.ownBlock = some b_ ∧ W1.heap.size ≤ b_) ∧ Below w0.heap.size w0 W1 ∧ MK gg w W1 := ⟨_, HM.out, H8.out, BN.out, hb, hnew_, HB.out, HK.out⟩; have nH8 := Aside0.mk (Row.keep H8.out (MK.below hb)); clear H8; have H8 := nH8; clear nH8; have nBN := Aside0.mk (blk_below BN.out hb); clear BN; have BN := nBN; clear nBN; have nM := Aside0.mk (Memo.below HM.out hb); have nB := Aside0.mk (below_step HB.out hb); have nK := Aside0.mk (HK.out.trans (MK.below hb)); clear HM HB HK ho hb hnew_; have HM := nM; have HB := nB; have HK := nK; clear nM nB nK; obtain ⟨H9g, H9c, rfl, H9h⟩ := Row.form H9.out; have hx9 := Row.cell H9.out; have hf9 := Row.frozen H9.out))
  obtain ⟨W1, hM1, h81, hBN1, hb1, ⟨g9', e9, hg9⟩, hB1, hK1⟩ := HX1
  obtain rfl : H9g = g9' := by simpa [Value.ownBlock] using e9
  have Hbs := below_set hb1 hg9 (j := 0) (v := .bool true)
  have nH9 := Aside0.mk ((Kd.R_put H9.out 0 true).1)
  clear H8 H9 HM HB HK BN
  have HM := Aside0.mk (Memo.below hM1 Hbs)
  have H8 := Aside0.mk (Row.keep h81 (MK.below (gg := gg) Hbs))
  have HK := Aside0.mk (hK1.trans (MK.below (gg := gg) Hbs))
  have HB := Aside0.mk (below_step hB1 Hbs)
  have BN := Aside0.mk (blk_below hBN1 Hbs)
  have H9 : Aside0 (Row w0 (w_.setCell ⟨H9g, 0, none⟩ (.bool true)) gg (.slice (some ⟨H9g, 0, none⟩) 1 H9c) true) := nH9
  clear nH9 Hbs hM1 h81 hBN1 hb1 hg9 e9 hB1 hK1 hx9 hf9
  generalize w_.setCell ⟨H9g, 0, none⟩ (.bool true) = w9 at *
  obtain ⟨H8g, H8c, rfl, hH8⟩ := Row.form H8.out
  obtain ⟨cg_, hG_, _, _⟩ := Memo.head HM.out
  have ht1 : w9.cell? ⟨gm, 1, none⟩ = some (.string tx) := (blk_cell hG_ 1).trans rfl
  clear hG_
  have hn0 : w9.cell? ⟨gn, 0, none⟩ = some (.int .i64 2) := (blk_cell BN.out 0).trans rfl
  have hn2 : w9.cell? ⟨gn, 2, none⟩ = some (.slice A2 x.f2.length c2) := (blk_cell BN.out 2).trans rfl
  have hn3 : w9.cell? ⟨gn, 3, none⟩ = some (.int .i64 x.f3) := (blk_cell BN.out 3).trans rfl
  have hn4 : w9.cell? ⟨gn, 4, none⟩ = some (.int .i64 x.f4) := (blk_cell BN.out 4).trans rfl
  go_wp2_with fail
  go_quiet (fail)
  go_wp2_with fail
  have HM := HM
  go_ret
  exact ⟨_, rfl, by rw [HE.out]; exact Row.keep H8.out (MK.drewN gg w9 _), Memo.below HM.out (pw_below_drewN (Below.refl _ _) _), HK.out.trans (MK.drewN gg w9 _), pw_below_drewN HB.out _⟩
set_option maxHeartbeats 16000000 in
set_option maxRecDepth 100000 in
theorem find_star {w0 : World} {gm gg cn : Nat} {An : Option Addr} {nodes : List S156} {tx : ByteArray} {E : Nat → Bool} (ht : tx.size = 0) (hn : nodes.length ≤ 100000) (k : Nat) (hk1 : k < nodes.length) (hN : Kd.C k156 w0 An nodes.length nodes) (hop : (rd_T156 nodes (k : Int)).f0 = 5) (hlen : (rd_T156 nodes (k : Int)).f2.length = 1) (k0 : Nat) (e0 : rd (rd_T156 nodes (k : Int)).f2 0 = (k0 : Int)) (he0 : EOK w0 gm gg An cn nodes tx E k0) (hE : E k = true) : FOK w0 gm gg An cn nodes tx E k := by
  intro w hM hB
  obtain ⟨ad, A1, c1, A2, c2, rfl, hx0, hx1, hx2, hx3, hx4, _, _, hc2, hC2⟩ := at_T156 hN (k : Int) (by omega) (by omega)
  rw [Int.toNat_natCast] at hx0 hx1 hx2 hx3 hx4
  replace hx0 := (hB.cell (World.block_lt_of_cell? w0 _ hx0)).trans hx0
  replace hx1 := (hB.cell (World.block_lt_of_cell? w0 _ hx1)).trans hx1
  replace hx2 := (hB.cell (World.block_lt_of_cell? w0 _ hx2)).trans hx2
  replace hx3 := (hB.cell (World.block_lt_of_cell? w0 _ hx3)).trans hx3
  replace hx4 := (hB.cell (World.block_lt_of_cell? w0 _ hx4)).trans hx4
  obtain ⟨x, hxd⟩ : ∃ x, rd_T156 nodes (k : Int) = x := ⟨_, rfl⟩
  rw [hxd] at hx0 hx1 hx2 hx3 hx4 hc2 hC2 hop hlen e0
  rw [hop] at hx0
  clear hxd
  obtain ⟨ad2, rfl, hkc0⟩ := Kd.at_int hC2 0 (by omega) (by rw [hlen]; decide)
  rw [e0] at hkc0
  rw [show (0 : Int).toNat = 0 from rfl] at hkc0
  rw [hlen] at hx2
  clear hC2 hc2 hlen
  obtain ⟨cg, hG, hcg, hgm⟩ := Memo.head hM
  have hm0 : w.cell? ⟨gm, 0, none⟩ = some (.slice (some ad) nodes.length cn) := (blk_cell hG 0).trans rfl
  have hm1 : w.cell? ⟨gm, 1, none⟩ = some (.string tx) := (blk_cell hG 1).trans rfl
  have ha1 : (w.alloc (.cells #[.int .i64 5, .slice A1 x.f1.length c1, .slice (some ad2) 1 c2, .int .i64 x.f3, .int .i64 x.f4] 156)).cell? ⟨gm, 1, none⟩ = some (.string tx) := (blk_cell (blk_alloc hG _) 1).trans rfl
  have hkz : (k : Int) < (nodes.length : Int) := by omega
  have hk0 : (0 : Int) ≤ (k : Int) := by omega
  obtain ⟨gn, hgn⟩ : ∃ gn, w.heap.size = gn := ⟨_, rfl⟩
  have HGN : Aside0 (gn ≠ gg) := ⟨by have := Memo.gg_lt hM; omega⟩
  have BN : Aside0 ((w.alloc (.cells #[.int .i64 5, .slice A1 x.f1.length c1, .slice (some ad2) 1 c2, .int .i64 x.f3, .int .i64 x.f4] 156)).heap[gn]? = some (.cells #[.int .i64 5, .slice A1 x.f1.length c1, .slice (some ad2) 1 c2, .int .i64 x.f3, .int .i64 x.f4] 156 (0, 0))) := ⟨by rw [← hgn]; exact blk_new w _⟩
  have HK := Aside0.mk (MK.below (gg := gg) (below_alloc (Below.refl w.heap.size w) (.cells #[.int .i64 5, .slice A1 x.f1.length c1, .slice (some ad2) 1 c2, .int .i64 x.f3, .int .i64 x.f4] 156)))
  have HB := Aside0.mk (below_alloc hB (.cells #[.int .i64 5, .slice A1 x.f1.length c1, .slice (some ad2) 1 c2, .int .i64 x.f3, .int .i64 x.f4] 156))
  have HM := Aside0.mk (Memo.below hM (below_alloc (Below.refl w.heap.size w) (.cells #[.int .i64 5, .slice A1 x.f1.length c1, .slice (some ad2) 1 c2, .int .i64 x.f3, .int .i64 x.f4] 156)))
  have HE := Aside0.mk hE
  clear hG hM hB hE
  go_enter Try.func157, Try.ntmps157
  go_upto_region 5 with (first | ((with_reducible refine gate_dst (N := 26) rfl ?_); refine Kd.R_make Kd.bool _ 4 rfl (N := 26) rfl 124 _ _ rfl (1 : Int) rfl rfl Try.underlying124 (.bool false) 1 info4 rfl (by decide) (by omega) false (ok := fun _ => True) (okp := fun _ => True) rfl (fun _ hk => hk) trivial (by omega) (by decide) (Below.refl _ _) (Nat.le_refl _) ?_; intro H8v w_ ho hb hg_ hnew_; clear hg_; replace ho : Kd.R Kd.bool 4 w_ _ (fun _ => True) H8v [false] := ho; have H8 := Aside0.mk (Row.new ho HB.out (Memo.gg_lt HM.out)); have nBN := Aside0.mk (blk_below BN.out hb); clear BN; have BN := nBN; clear nBN; have nM := Aside0.mk (Memo.below HM.out hb); have nB := Aside0.mk (below_step HB.out hb); have nK := Aside0.mk (HK.out.trans (MK.below hb)); clear HM HB HK ho hb hnew_; have HM := nM; have HB := nB; have HK := nK; clear nM nB nK; obtain ⟨cg_, hG_, _, _⟩ := Memo.head HM.out; have ha2 : w_.cell? ⟨gm, 1, none⟩ = some (.string tx) := (blk_cell hG_ 1).trans rfl; clear hG_) | ((with_reducible refine gate_dst (N := 33) rfl ?_); refine Kd.R_make Kd.bool _ 4 rfl (N := 33) rfl 124 _ _ rfl (1 : Int) rfl rfl Try.underlying124 (.bool false) 1 info4 rfl (by decide) (by omega) false (ok := fun _ => True) (okp := fun _ => True) rfl (fun _ hk => hk) trivial (by omega) (by decide) (Below.refl _ _) (Nat.le_refl _) ?_; intro H9v w_ ho hb hg_ hnew_; clear hg_; replace ho : Kd.R Kd.bool 4 w_ _ (fun _ => True) H9v [false] := ho; have H9 := Aside0.mk (Row.new ho HB.out (Memo.gg_lt HM.out)); have HX1 : ∃ W1 : World, Memo w0 gm gg (some ad) cn nodes tx E W1 ∧ Row w0 W1 gg H8v false ∧ W1.heap[gn]? = some (.cells #[.int .i64 5, .slice A1 x.f1.length c1, .slice (some ad2) 1 c2, .int .i64 x.f3, .int .i64 x.f4] 156 (0, 0)) ∧ Below W1.heap.size W1 w_ ∧ (∃ b_, H9v.ownBlock = some b_ ∧ W1.heap.size ≤ b_) ∧ Below w0.heap.size w0 W1 ∧ MK gg w W1 := ⟨_, HM.out, H8.out, BN.out, hb, hnew_, HB.out, HK.out⟩; have nH8 := Aside0.mk (Row.keep H8.out (MK.below hb)); clear H8; have H8 := nH8; clear nH8; have nBN := Aside0.mk (blk_below BN.out hb); clear BN; have BN := nBN; clear nBN; have nM := Aside0.mk (Memo.below HM.out hb); have nB := Aside0.mk (below_step HB.out hb); have nK := Aside0.mk (HK.out.trans (MK.below hb)); clear HM HB HK ho hb hnew_; have HM := nM; have HB := nB; have HK := nK; clear nM nB nK; obtain ⟨H9g, H9c, rfl, H9h⟩ := Row.form H9.out; have hx9 := Row.cell H9.out; have hf9 := Row.frozen H9.out))
  obtain ⟨W1, hM1, h81, hBN1, hb1, ⟨g9', e9, hg9⟩, hB1, hK1⟩ := HX1
  obtain rfl : H9g = g9' := by simpa [Value.ownBlock] using e9
  have Hbs := below_set hb1 hg9 (j := 0) (v := .bool true)
  have nH9 := Aside0.mk ((Kd.R_put H9.out 0 true).1)
  clear H8 H9 HM HB HK BN
  have HM := Aside0.mk (Memo.below hM1 Hbs)
  have H8 := Aside0.mk (Row.keep h81 (MK.below (gg := gg) Hbs))
  have HK := Aside0.mk (hK1.trans (MK.below (gg := gg) Hbs))
  have HB := Aside0.mk (below_step hB1 Hbs)
  have BN := Aside0.mk (blk_below hBN1 Hbs)
  have H9 : Aside0 (Row w0 (w_.setCell ⟨H9g, 0, none⟩ (.bool true)) gg (.slice (some ⟨H9g, 0, none⟩) 1 H9c) true) := nH9
  clear nH9 Hbs hM1 h81 hBN1 hb1 hg9 e9 hB1 hK1 hx9 hf9
  generalize w_.setCell ⟨H9g, 0, none⟩ (.bool true) = w9 at *
  obtain ⟨H8g, H8c, rfl, hH8⟩ := Row.form H8.out
  obtain ⟨cg_, hG_, _, _⟩ := Memo.head HM.out
  have ht1 : w9.cell? ⟨gm, 1, none⟩ = some (.string tx) := (blk_cell hG_ 1).trans rfl
  clear hG_
  have hn0 : w9.cell? ⟨gn, 0, none⟩ = some (.int .i64 5) := (blk_cell BN.out 0).trans rfl
  have hn2 : w9.cell? ⟨gn, 2, none⟩ = some (.slice (some ad2) 1 c2) := (blk_cell BN.out 2).trans rfl
  have hn3 : w9.cell? ⟨gn, 3, none⟩ = some (.int .i64 x.f3) := (blk_cell BN.out 3).trans rfl
  have hn4 : w9.cell? ⟨gn, 4, none⟩ = some (.int .i64 x.f4) := (blk_cell BN.out 4).trans rfl
  have hq0 := (HB.out.cell (World.block_lt_of_cell? w0 _ hkc0)).trans hkc0
  have hz0 := hq0
  rw [show ad2.add 0 = ad2 by cases ad2; rfl] at hz0
  have HE0 := Aside0.mk he0
  clear hkc0 he0
  go_wp2_with (go_at_call 172; refine (again_of k0 HE0.out _ true _ HM.out HB.out H9.out).mono ?_; rintro e w_ ⟨v_, rfl, hR_, hM_, hK_, hB_⟩; have HA := Aside0.mk hR_; have nK := Aside0.mk (HK.out.trans hK_); clear HM HB HK hR_ hK_; have HM := Aside0.mk hM_; have HB := Aside0.mk hB_; have HK := nK; clear nK hM_ hB_)
  go_ret
  exact ⟨_, rfl, by rw [HE.out]; exact HA.out, HM.out, HK.out, HB.out⟩
set_option maxHeartbeats 16000000 in
set_option maxRecDepth 100000 in
theorem find_maybe {w0 : World} {gm gg cn : Nat} {An : Option Addr} {nodes : List S156} {tx : ByteArray} {E : Nat → Bool} (ht : tx.size = 0) (hn : nodes.length ≤ 100000) (k : Nat) (hk1 : k < nodes.length) (hN : Kd.C k156 w0 An nodes.length nodes) (hop : (rd_T156 nodes (k : Int)).f0 = 7) (hlen : (rd_T156 nodes (k : Int)).f2.length = 1) (k0 : Nat) (e0 : rd (rd_T156 nodes (k : Int)).f2 0 = (k0 : Int)) (he0 : EOK w0 gm gg An cn nodes tx E k0) (hE : E k = true) : FOK w0 gm gg An cn nodes tx E k := by
  intro w hM hB
  obtain ⟨ad, A1, c1, A2, c2, rfl, hx0, hx1, hx2, hx3, hx4, _, _, hc2, hC2⟩ := at_T156 hN (k : Int) (by omega) (by omega)
  rw [Int.toNat_natCast] at hx0 hx1 hx2 hx3 hx4
  replace hx0 := (hB.cell (World.block_lt_of_cell? w0 _ hx0)).trans hx0
  replace hx1 := (hB.cell (World.block_lt_of_cell? w0 _ hx1)).trans hx1
  replace hx2 := (hB.cell (World.block_lt_of_cell? w0 _ hx2)).trans hx2
  replace hx3 := (hB.cell (World.block_lt_of_cell? w0 _ hx3)).trans hx3
  replace hx4 := (hB.cell (World.block_lt_of_cell? w0 _ hx4)).trans hx4
  obtain ⟨x, hxd⟩ : ∃ x, rd_T156 nodes (k : Int) = x := ⟨_, rfl⟩
  rw [hxd] at hx0 hx1 hx2 hx3 hx4 hc2 hC2 hop hlen e0
  rw [hop] at hx0
  clear hxd
  obtain ⟨ad2, rfl, hkc0⟩ := Kd.at_int hC2 0 (by omega) (by rw [hlen]; decide)
  rw [e0] at hkc0
  rw [show (0 : Int).toNat = 0 from rfl] at hkc0
  rw [hlen] at hx2
  clear hC2 hc2 hlen
  obtain ⟨cg, hG, hcg, hgm⟩ := Memo.head hM
  have hm0 : w.cell? ⟨gm, 0, none⟩ = some (.slice (some ad) nodes.length cn) := (blk_cell hG 0).trans rfl
  have hm1 : w.cell? ⟨gm, 1, none⟩ = some (.string tx) := (blk_cell hG 1).trans rfl
  have ha1 : (w.alloc (.cells #[.int .i64 7, .slice A1 x.f1.length c1, .slice (some ad2) 1 c2, .int .i64 x.f3, .int .i64 x.f4] 156)).cell? ⟨gm, 1, none⟩ = some (.string tx) := (blk_cell (blk_alloc hG _) 1).trans rfl
  have hkz : (k : Int) < (nodes.length : Int) := by omega
  have hk0 : (0 : Int) ≤ (k : Int) := by omega
  obtain ⟨gn, hgn⟩ : ∃ gn, w.heap.size = gn := ⟨_, rfl⟩
  have HGN : Aside0 (gn ≠ gg) := ⟨by have := Memo.gg_lt hM; omega⟩
  have BN : Aside0 ((w.alloc (.cells #[.int .i64 7, .slice A1 x.f1.length c1, .slice (some ad2) 1 c2, .int .i64 x.f3, .int .i64 x.f4] 156)).heap[gn]? = some (.cells #[.int .i64 7, .slice A1 x.f1.length c1, .slice (some ad2) 1 c2, .int .i64 x.f3, .int .i64 x.f4] 156 (0, 0))) := ⟨by rw [← hgn]; exact blk_new w _⟩
  have HK := Aside0.mk (MK.below (gg := gg) (below_alloc (Below.refl w.heap.size w) (.cells #[.int .i64 7, .slice A1 x.f1.length c1, .slice (some ad2) 1 c2, .int .i64 x.f3, .int .i64 x.f4] 156)))
  have HB := Aside0.mk (below_alloc hB (.cells #[.int .i64 7, .slice A1 x.f1.length c1, .slice (some ad2) 1 c2, .int .i64 x.f3, .int .i64 x.f4] 156))
  have HM := Aside0.mk (Memo.below hM (below_alloc (Below.refl w.heap.size w) (.cells #[.int .i64 7, .slice A1 x.f1.length c1, .slice (some ad2) 1 c2, .int .i64 x.f3, .int .i64 x.f4] 156)))
  have HE := Aside0.mk hE
  clear hG hM hB hE
  go_enter Try.func157, Try.ntmps157
  go_upto_region 5 with (first | ((with_reducible refine gate_dst (N := 26) rfl ?_); refine Kd.R_make Kd.bool _ 4 rfl (N := 26) rfl 124 _ _ rfl (1 : Int) rfl rfl Try.underlying124 (.bool false) 1 info4 rfl (by decide) (by omega) false (ok := fun _ => True) (okp := fun _ => True) rfl (fun _ hk => hk) trivial (by omega) (by decide) (Below.refl _ _) (Nat.le_refl _) ?_; intro H8v w_ ho hb hg_ hnew_; clear hg_; replace ho : Kd.R Kd.bool 4 w_ _ (fun _ => True) H8v [false] := ho; have H8 := Aside0.mk (Row.new ho HB.out (Memo.gg_lt HM.out)); have nBN := Aside0.mk (blk_below BN.out hb); clear BN; have BN := nBN; clear nBN; have nM := Aside0.mk (Memo.below HM.out hb); have nB := Aside0.mk (below_step HB.out hb); have nK := Aside0.mk (HK.out.trans (MK.below hb)); clear HM HB HK ho hb hnew_; have HM := nM; have HB := nB; have HK := nK; clear nM nB nK; obtain ⟨cg_, hG_, _, _⟩ := Memo.head HM.out; have ha2 : w_.cell? ⟨gm, 1, none⟩ = some (.string tx) := (blk_cell hG_ 1).trans rfl; clear hG_) | ((with_reducible refine gate_dst (N := 33) rfl ?_); refine Kd.R_make Kd.bool _ 4 rfl (N := 33) rfl 124 _ _ rfl (1 : Int) rfl rfl Try.underlying124 (.bool false) 1 info4 rfl (by decide) (by omega) false (ok := fun _ => True) (okp := fun _ => True) rfl (fun _ hk => hk) trivial (by omega) (by decide) (Below.refl _ _) (Nat.le_refl _) ?_; intro H9v w_ ho hb hg_ hnew_; clear hg_; replace ho : Kd.R Kd.bool 4 w_ _ (fun _ => True) H9v [false] := ho; have H9 := Aside0.mk (Row.new ho HB.out (Memo.gg_lt HM.out)); have HX1 : ∃ W1 : World, Memo w0 gm gg (some ad) cn nodes tx E W1 ∧ Row w0 W1 gg H8v false ∧ W1.heap[gn]? = some (.cells #[.int .i64 7, .slice A1 x.f1.length c1, .slice (some ad2) 1 c2, .int .i64 x.f3, .int .i64 x.f4] 156 (0, 0)) ∧ Below W1.heap.size W1 w_ ∧ (∃ b_, H9v.ownBlock = some b_ ∧ W1.heap.size ≤ b_) ∧ Below w0.heap.size w0 W1 ∧ MK gg w W1 := ⟨_, HM.out, H8.out, BN.out, hb, hnew_, HB.out, HK.out⟩; have nH8 := Aside0.mk (Row.keep H8.out (MK.below hb)); clear H8; have H8 := nH8; clear nH8; have nBN := Aside0.mk (blk_below BN.out hb); clear BN; have BN := nBN; clear nBN; have nM := Aside0.mk (Memo.below HM.out hb); have nB := Aside0.mk (below_step HB.out hb); have nK := Aside0.mk (HK.out.trans (MK.below hb)); clear HM HB HK ho hb hnew_; have HM := nM; have HB := nB; have HK := nK; clear nM nB nK; obtain ⟨H9g, H9c, rfl, H9h⟩ := Row.form H9.out; have hx9 := Row.cell H9.out; have hf9 := Row.frozen H9.out))
  obtain ⟨W1, hM1, h81, hBN1, hb1, ⟨g9', e9, hg9⟩, hB1, hK1⟩ := HX1
  obtain rfl : H9g = g9' := by simpa [Value.ownBlock] using e9
  have Hbs := below_set hb1 hg9 (j := 0) (v := .bool true)
  have nH9 := Aside0.mk ((Kd.R_put H9.out 0 true).1)
  clear H8 H9 HM HB HK BN
  have HM := Aside0.mk (Memo.below hM1 Hbs)
  have H8 := Aside0.mk (Row.keep h81 (MK.below (gg := gg) Hbs))
  have HK := Aside0.mk (hK1.trans (MK.below (gg := gg) Hbs))
  have HB := Aside0.mk (below_step hB1 Hbs)
  have BN := Aside0.mk (blk_below hBN1 Hbs)
  have H9 : Aside0 (Row w0 (w_.setCell ⟨H9g, 0, none⟩ (.bool true)) gg (.slice (some ⟨H9g, 0, none⟩) 1 H9c) true) := nH9
  clear nH9 Hbs hM1 h81 hBN1 hb1 hg9 e9 hB1 hK1 hx9 hf9
  generalize w_.setCell ⟨H9g, 0, none⟩ (.bool true) = w9 at *
  obtain ⟨H8g, H8c, rfl, hH8⟩ := Row.form H8.out
  obtain ⟨cg_, hG_, _, _⟩ := Memo.head HM.out
  have ht1 : w9.cell? ⟨gm, 1, none⟩ = some (.string tx) := (blk_cell hG_ 1).trans rfl
  clear hG_
  have hn0 : w9.cell? ⟨gn, 0, none⟩ = some (.int .i64 7) := (blk_cell BN.out 0).trans rfl
  have hn2 : w9.cell? ⟨gn, 2, none⟩ = some (.slice (some ad2) 1 c2) := (blk_cell BN.out 2).trans rfl
  have hn3 : w9.cell? ⟨gn, 3, none⟩ = some (.int .i64 x.f3) := (blk_cell BN.out 3).trans rfl
  have hn4 : w9.cell? ⟨gn, 4, none⟩ = some (.int .i64 x.f4) := (blk_cell BN.out 4).trans rfl
  have hq0 := (HB.out.cell (World.block_lt_of_cell? w0 _ hkc0)).trans hkc0
  have hz0 := hq0
  rw [show ad2.add 0 = ad2 by cases ad2; rfl] at hz0
  have HE0 := Aside0.mk he0
  clear hkc0 he0
  go_wp2_with (first | (go_at_call 121; refine (HE0.out _ HM.out HB.out).mono ?_; rintro e w_ ⟨v_, rfl, hR_, hM_, hK_, hB_⟩; have nH9 := Aside0.mk (Row.keep H9.out hK_); clear H9; have H9 := nH9; clear nH9; obtain ⟨g_, c_, rfl, hc_⟩ := Row.form hR_; have HA := Aside0.mk hR_; have nK := Aside0.mk (HK.out.trans hK_); clear HM HB HK hR_ hK_; have HM := Aside0.mk hM_; have HB := Aside0.mk hB_; have HK := nK; clear nK hM_ hB_) | (go_at_call 171; obtain ⟨k_, hk_⟩ := or_one true (E k0); refine (spec_l4Or.calls k_ _ _ [true] _ _ [(E k0)] _ _ (Row.C H9.out) (Kd.R_reads' H9.out).2.1 (Row.C HA.out) (Kd.R_reads' HA.out).2.1 hk_).mono ?_; rintro e w_ ⟨HOv, rfl, ho, hb⟩; have HO := Aside0.mk (Row.new ho HB.out (Memo.gg_lt HM.out)); have nM := Aside0.mk (Memo.below HM.out hb); have nB := Aside0.mk (below_step HB.out hb); have nK := Aside0.mk (HK.out.trans (MK.below hb)); clear HM HB HK ho hb hk_; have HM := nM; have HB := nB; have HK := nK; clear nM nB nK))
  go_ret
  exact ⟨_, rfl, by rw [HE.out]; exact (by have h := HO.out; simpa using h), HM.out, HK.out, HB.out⟩
end Go.Proofs.Ytijmhelacmjggaa.P
/- The walk of the memo's find, where a region draws its order. -/
namespace Go.Proofs.Ytijmhelacmjggaa.P
open Go.RowKit Go.Shelf Go.Proofs.YtijmhelacmjggaaW.PrintWords Go.Proofs.YtijmhelacmjggaaW.PrintLast Go.Proofs.YtijmhelacmjggaaW.PrintMore Go.Proofs.YtijmhelacmjggaaEv
set_option linter.unusedVariables false
set_option linter.unusedSimpArgs false
theorem MK.cell {gg : Nat} {w w1 : World} (h : MK gg w w1) {p : Addr} {v : Value} (hc : w.cell? p = some v) (hne : p.block ≠ gg) : w1.cell? p = some v := by
  have hb := h.2 p.block (World.block_lt_of_cell? w p hc) hne
  exact (World.cell?_of_block hb).trans hc
theorem Memo.gg_ge {w0 w : World} {gm gg cn : Nat} {An : Option Addr} {nodes : List S156} {tx : ByteArray} {E : Nat → Bool} (h : Memo w0 gm gg An cn nodes tx E w) : w0.heap.size ≤ gg := by
  obtain ⟨cg, cs, _, _, _, h4, _⟩ := h
  exact h4
set_option maxHeartbeats 16000000 in
set_option maxRecDepth 100000 in
theorem find_cat {w0 : World} {gm gg cn : Nat} {An : Option Addr} {nodes : List S156} {tx : ByteArray} {E : Nat → Bool} (ht : tx.size = 0) (hn : nodes.length ≤ 100000) (k : Nat) (hk1 : k < nodes.length) (hN : Kd.C k156 w0 An nodes.length nodes) (hop : (rd_T156 nodes (k : Int)).f0 = 3) (hlen : (rd_T156 nodes (k : Int)).f2.length = 2) (k0 : Nat) (e0 : rd (rd_T156 nodes (k : Int)).f2 0 = (k0 : Int)) (he0 : EOK w0 gm gg An cn nodes tx E k0) (k1 : Nat) (e1 : rd (rd_T156 nodes (k : Int)).f2 1 = (k1 : Int)) (he1 : EOK w0 gm gg An cn nodes tx E k1) (hE : E k = (E k0 && E k1)) : FOK w0 gm gg An cn nodes tx E k := by
  intro w hM hB
  obtain ⟨ad, A1, c1, A2, c2, rfl, hx0, hx1, hx2, hx3, hx4, _, _, hc2, hC2⟩ := at_T156 hN (k : Int) (by omega) (by omega)
  rw [Int.toNat_natCast] at hx0 hx1 hx2 hx3 hx4
  replace hx0 := (hB.cell (World.block_lt_of_cell? w0 _ hx0)).trans hx0
  replace hx1 := (hB.cell (World.block_lt_of_cell? w0 _ hx1)).trans hx1
  replace hx2 := (hB.cell (World.block_lt_of_cell? w0 _ hx2)).trans hx2
  replace hx3 := (hB.cell (World.block_lt_of_cell? w0 _ hx3)).trans hx3
  replace hx4 := (hB.cell (World.block_lt_of_cell? w0 _ hx4)).trans hx4
  obtain ⟨x, hxd⟩ : ∃ x, rd_T156 nodes (k : Int) = x := ⟨_, rfl⟩
  rw [hxd] at hx0 hx1 hx2 hx3 hx4 hc2 hC2 hop hlen e0 e1
  rw [hop] at hx0
  clear hxd
  obtain ⟨ad2, rfl, hkc0⟩ := Kd.at_int hC2 0 (by omega) (by rw [hlen]; decide)
  rw [e0] at hkc0
  rw [show (0 : Int).toNat = 0 from rfl] at hkc0
  obtain ⟨ad3, e3, hkc1⟩ := Kd.at_int hC2 1 (by omega) (by rw [hlen]; decide)
  cases e3
  rw [e1] at hkc1
  rw [show (1 : Int).toNat = 1 from rfl] at hkc1
  rw [hlen] at hx2
  clear hC2 hc2 hlen
  obtain ⟨cg, hG, hcg, hgm⟩ := Memo.head hM
  have hm0 : w.cell? ⟨gm, 0, none⟩ = some (.slice (some ad) nodes.length cn) := (blk_cell hG 0).trans rfl
  have hm1 : w.cell? ⟨gm, 1, none⟩ = some (.string tx) := (blk_cell hG 1).trans rfl
  have ha1 : (w.alloc (.cells #[.int .i64 3, .slice A1 x.f1.length c1, .slice (some ad2) 2 c2, .int .i64 x.f3, .int .i64 x.f4] 156)).cell? ⟨gm, 1, none⟩ = some (.string tx) := (blk_cell (blk_alloc hG _) 1).trans rfl
  have hkz : (k : Int) < (nodes.length : Int) := by omega
  have hk0 : (0 : Int) ≤ (k : Int) := by omega
  obtain ⟨gn, hgn⟩ : ∃ gn, w.heap.size = gn := ⟨_, rfl⟩
  have HGN : Aside0 (gn ≠ gg) := ⟨by have := Memo.gg_lt hM; omega⟩
  have BN : Aside0 ((w.alloc (.cells #[.int .i64 3, .slice A1 x.f1.length c1, .slice (some ad2) 2 c2, .int .i64 x.f3, .int .i64 x.f4] 156)).heap[gn]? = some (.cells #[.int .i64 3, .slice A1 x.f1.length c1, .slice (some ad2) 2 c2, .int .i64 x.f3, .int .i64 x.f4] 156 (0, 0))) := ⟨by rw [← hgn]; exact blk_new w _⟩
  have HK := Aside0.mk (MK.below (gg := gg) (below_alloc (Below.refl w.heap.size w) (.cells #[.int .i64 3, .slice A1 x.f1.length c1, .slice (some ad2) 2 c2, .int .i64 x.f3, .int .i64 x.f4] 156)))
  have HB := Aside0.mk (below_alloc hB (.cells #[.int .i64 3, .slice A1 x.f1.length c1, .slice (some ad2) 2 c2, .int .i64 x.f3, .int .i64 x.f4] 156))
  have HM := Aside0.mk (Memo.below hM (below_alloc (Below.refl w.heap.size w) (.cells #[.int .i64 3, .slice A1 x.f1.length c1, .slice (some ad2) 2 c2, .int .i64 x.f3, .int .i64 x.f4] 156)))
  have HE := Aside0.mk hE
  clear hG hM hB hE
  go_enter Try.func157, Try.ntmps157
  go_upto_region 5 with (first | ((with_reducible refine gate_dst (N := 26) rfl ?_); refine Kd.R_make Kd.bool _ 4 rfl (N := 26) rfl 124 _ _ rfl (1 : Int) rfl rfl Try.underlying124 (.bool false) 1 info4 rfl (by decide) (by omega) false (ok := fun _ => True) (okp := fun _ => True) rfl (fun _ hk => hk) trivial (by omega) (by decide) (Below.refl _ _) (Nat.le_refl _) ?_; intro H8v w_ ho hb hg_ hnew_; clear hg_; replace ho : Kd.R Kd.bool 4 w_ _ (fun _ => True) H8v [false] := ho; have H8 := Aside0.mk (Row.new ho HB.out (Memo.gg_lt HM.out)); have nBN := Aside0.mk (blk_below BN.out hb); clear BN; have BN := nBN; clear nBN; have nM := Aside0.mk (Memo.below HM.out hb); have nB := Aside0.mk (below_step HB.out hb); have nK := Aside0.mk (HK.out.trans (MK.below hb)); clear HM HB HK ho hb hnew_; have HM := nM; have HB := nB; have HK := nK; clear nM nB nK; obtain ⟨cg_, hG_, _, _⟩ := Memo.head HM.out; have ha2 : w_.cell? ⟨gm, 1, none⟩ = some (.string tx) := (blk_cell hG_ 1).trans rfl; clear hG_) | ((with_reducible refine gate_dst (N := 33) rfl ?_); refine Kd.R_make Kd.bool _ 4 rfl (N := 33) rfl 124 _ _ rfl (1 : Int) rfl rfl Try.underlying124 (.bool false) 1 info4 rfl (by decide) (by omega) false (ok := fun _ => True) (okp := fun _ => True) rfl (fun _ hk => hk) trivial (by omega) (by decide) (Below.refl _ _) (Nat.le_refl _) ?_; intro H9v w_ ho hb hg_ hnew_; clear hg_; replace ho : Kd.R Kd.bool 4 w_ _ (fun _ => True) H9v [false] := ho; have H9 := Aside0.mk (Row.new ho HB.out (Memo.gg_lt HM.out)); have HX1 : ∃ W1 : World, Memo w0 gm gg (some ad) cn nodes tx E W1 ∧ Row w0 W1 gg H8v false ∧ W1.heap[gn]? = some (.cells #[.int .i64 3, .slice A1 x.f1.length c1, .slice (some ad2) 2 c2, .int .i64 x.f3, .int .i64 x.f4] 156 (0, 0)) ∧ Below W1.heap.size W1 w_ ∧ (∃ b_, H9v.ownBlock = some b_ ∧ W1.heap.size ≤ b_) ∧ Below w0.heap.size w0 W1 ∧ MK gg w W1 := ⟨_, HM.out, H8.out, BN.out, hb, hnew_, HB.out, HK.out⟩; have nH8 := Aside0.mk (Row.keep H8.out (MK.below hb)); clear H8; have H8 := nH8; clear nH8; have nBN := Aside0.mk (blk_below BN.out hb); clear BN; have BN := nBN; clear nBN; have nM := Aside0.mk (Memo.below HM.out hb); have nB := Aside0.mk (below_step HB.out hb); have nK := Aside0.mk (HK.out.trans (MK.below hb)); clear HM HB HK ho hb hnew_; have HM := nM; have HB := nB; have HK := nK; clear nM nB nK; obtain ⟨H9g, H9c, rfl, H9h⟩ := Row.form H9.out; have hx9 := Row.cell H9.out; have hf9 := Row.frozen H9.out))
  obtain ⟨W1, hM1, h81, hBN1, hb1, ⟨g9', e9, hg9⟩, hB1, hK1⟩ := HX1
  obtain rfl : H9g = g9' := by simpa [Value.ownBlock] using e9
  have Hbs := below_set hb1 hg9 (j := 0) (v := .bool true)
  have nH9 := Aside0.mk ((Kd.R_put H9.out 0 true).1)
  clear H8 H9 HM HB HK BN
  have HM := Aside0.mk (Memo.below hM1 Hbs)
  have H8 := Aside0.mk (Row.keep h81 (MK.below (gg := gg) Hbs))
  have HK := Aside0.mk (hK1.trans (MK.below (gg := gg) Hbs))
  have HB := Aside0.mk (below_step hB1 Hbs)
  have BN := Aside0.mk (blk_below hBN1 Hbs)
  have H9 : Aside0 (Row w0 (w_.setCell ⟨H9g, 0, none⟩ (.bool true)) gg (.slice (some ⟨H9g, 0, none⟩) 1 H9c) true) := nH9
  clear nH9 Hbs hM1 h81 hBN1 hb1 hg9 e9 hB1 hK1 hx9 hf9
  generalize w_.setCell ⟨H9g, 0, none⟩ (.bool true) = w9 at *
  obtain ⟨H8g, H8c, rfl, hH8⟩ := Row.form H8.out
  obtain ⟨cg_, hG_, _, _⟩ := Memo.head HM.out
  have ht1 : w9.cell? ⟨gm, 1, none⟩ = some (.string tx) := (blk_cell hG_ 1).trans rfl
  clear hG_
  have hn0 : w9.cell? ⟨gn, 0, none⟩ = some (.int .i64 3) := (blk_cell BN.out 0).trans rfl
  have hn2 : w9.cell? ⟨gn, 2, none⟩ = some (.slice (some ad2) 2 c2) := (blk_cell BN.out 2).trans rfl
  have hn3 : w9.cell? ⟨gn, 3, none⟩ = some (.int .i64 x.f3) := (blk_cell BN.out 3).trans rfl
  have hn4 : w9.cell? ⟨gn, 4, none⟩ = some (.int .i64 x.f4) := (blk_cell BN.out 4).trans rfl
  have hq0 := (HB.out.cell (World.block_lt_of_cell? w0 _ hkc0)).trans hkc0
  have hq1 := (HB.out.cell (World.block_lt_of_cell? w0 _ hkc1)).trans hkc1
  have hz0 := hq0
  rw [show ad2.add 0 = ad2 by cases ad2; rfl] at hz0
  have HE0 := Aside0.mk he0
  have HE1 := Aside0.mk he1
  have hkb := hkc0
  clear hkc0 he0 hkc1 he1
  have hs_ := World.cell?_spot hz0
  rw [show ad2.add 1 = ⟨ad2.block, ad2.off + 1, none⟩ by (obtain ⟨b_, o_, s_⟩ := ad2; simp only at hs_; subst hs_; rfl)] at hq1
  go_wp2_with fail
  replace HM : Aside0 (Memo w0 gm gg (some ad) cn nodes tx E w9.drew) := ⟨Memo.below HM.out (below_drew1 (Below.refl _ _))⟩
  replace HB : Aside0 (Below w0.heap.size w0 w9.drew) := ⟨below_drew1 HB.out⟩
  replace HK : Aside0 (MK gg w w9.drew) := ⟨HK.out.trans (MK.below (below_drew1 (Below.refl _ _)))⟩
  replace BN := Aside0.mk (blk_drew BN.out)
  have HAD : Aside0 (ad2.block ≠ gg) := ⟨by have h1 := World.block_lt_of_cell? w0 _ hkb; have h2 := Memo.gg_ge HM.out; rw [add_block] at h1; omega⟩
  refine start_ (n := 14) (S := fun w' => w'.cell? ⟨gn, 2, none⟩ = some (.slice (some ad2) 2 c2) ∧ w'.cell? ad2 = some (.int .i64 (k0 : Int)) ∧ w'.cell? ⟨ad2.block, ad2.off + 1, none⟩ = some (.int .i64 (k1 : Int))) (ds := []) #[false, false, false, false, false, false, false, false, false, false, false, false, false, false] (by kernel_rfl) rfl rfl ⟨(blk_cell BN.out 2).trans rfl, hz0, hq1⟩ (fun hHeld => ?_)
  generalize hW1 : w9.drew = W1 at HM HB HK BN hHeld ⊢
  refine pure_ (i := 0) (N := (some 70)) (v := ?_) (a' := ?_) #[true, false, false, false, false, false, false, false, false, false, false, false, false, false] rfl rfl (by kernel_rfl) (fun _ _ _ h => h) (Or.inl ⟨by rfl, ?_⟩) ?_ ?_
  rotate_left
  · intro w'
    go_simp
    with_reducible rfl
  rotate_left
  · simp only [Act.put, List.setIfInBounds_toArray, List.set_cons_zero, List.set_cons_succ, i64_w, i32_w]
    rfl
  refine pure_ (i := 1) (N := (some 71)) (v := ?_) (a' := ?_) #[true, true, false, false, false, false, false, false, false, false, false, false, false, false] rfl rfl (by kernel_rfl) (fun _ _ _ h => h) (Or.inl ⟨by rfl, ?_⟩) ?_ ?_
  rotate_left
  · intro w'
    go_simp
    with_reducible rfl
  rotate_left
  · simp only [Act.put, List.setIfInBounds_toArray, List.set_cons_zero, List.set_cons_succ, i64_w, i32_w]
    rfl
  refine pure_ (i := 5) (N := (some 75)) (v := ?_) (a' := ?_) #[true, true, false, false, false, true, false, false, false, false, false, false, false, false] rfl rfl (by kernel_rfl) (fun _ _ _ h => h) (Or.inl ⟨by rfl, ?_⟩) ?_ ?_
  rotate_left
  · intro w'
    go_simp
    with_reducible rfl
  rotate_left
  · simp only [Act.put, List.setIfInBounds_toArray, List.set_cons_zero, List.set_cons_succ, i64_w, i32_w]
    rfl
  refine pure_ (i := 6) (N := (some 76)) (v := ?_) (a' := ?_) #[true, true, false, false, false, true, true, false, false, false, false, false, false, false] rfl rfl (by kernel_rfl) (fun _ _ _ h => h) (Or.inl ⟨by rfl, ?_⟩) ?_ ?_
  rotate_left
  · intro w'
    go_simp
    with_reducible rfl
  rotate_left
  · simp only [Act.put, List.setIfInBounds_toArray, List.set_cons_zero, List.set_cons_succ, i64_w, i32_w]
    rfl
  refine pure_ (i := 10) (N := (some 80)) (v := ?_) (a' := ?_) #[true, true, false, false, false, true, true, false, false, false, true, false, false, false] rfl rfl (by kernel_rfl) (fun _ _ _ h => h) (Or.inl ⟨by rfl, ?_⟩) ?_ ?_
  rotate_left
  · intro w'
    go_simp
    with_reducible rfl
  rotate_left
  · simp only [Act.put, List.setIfInBounds_toArray, List.set_cons_zero, List.set_cons_succ, i64_w, i32_w]
    rfl
  refine take_ (i := 2) (N := (some 72)) (v := ?_) (a' := ?_) #[true, true, true, false, false, true, true, false, false, false, true, false, false, false] rfl rfl (by kernel_rfl) (fun _ _ _ h => h) (Or.inl ⟨by rfl, ?_⟩) hHeld ?_ ?_
  rotate_left
  · rintro w' ⟨s0, s1, s2⟩
    go_simp
    with_reducible rfl
  rotate_left
  · simp only [Act.put, List.setIfInBounds_toArray, List.set_cons_zero, List.set_cons_succ, i64_w, i32_w]
    rfl
  refine pure_ (i := 3) (N := (some 73)) (v := ?_) (a' := ?_) #[true, true, true, true, false, true, true, false, false, false, true, false, false, false] rfl rfl (by kernel_rfl) (fun _ _ _ h => h) (Or.inl ⟨by rfl, ?_⟩) ?_ ?_
  rotate_left
  · intro w'
    go_simp
    with_reducible rfl
  rotate_left
  · simp only [Act.put, List.setIfInBounds_toArray, List.set_cons_zero, List.set_cons_succ, i64_w, i32_w]
    rfl
  refine take_ (i := 4) (N := (some 74)) (v := ?_) (a' := ?_) #[true, true, true, true, true, true, true, false, false, false, true, false, false, false] rfl rfl (by kernel_rfl) (fun _ _ _ h => h) (Or.inl ⟨by rfl, ?_⟩) hHeld ?_ ?_
  rotate_left
  · rintro w' ⟨s0, s1, s2⟩
    go_simp
    with_reducible rfl
  rotate_left
  · simp only [Act.put, List.setIfInBounds_toArray, List.set_cons_zero, List.set_cons_succ, i64_w, i32_w]
    rfl
  refine take_ (i := 7) (N := (some 77)) (v := ?_) (a' := ?_) #[true, true, true, true, true, true, true, true, false, false, true, false, false, false] rfl rfl (by kernel_rfl) (fun _ _ _ h => h) (Or.inl ⟨by rfl, ?_⟩) hHeld ?_ ?_
  rotate_left
  · rintro w' ⟨s0, s1, s2⟩
    go_simp
    with_reducible rfl
  rotate_left
  · simp only [Act.put, List.setIfInBounds_toArray, List.set_cons_zero, List.set_cons_succ, i64_w, i32_w]
    rfl
  refine pure_ (i := 8) (N := (some 78)) (v := ?_) (a' := ?_) #[true, true, true, true, true, true, true, true, true, false, true, false, false, false] rfl rfl (by kernel_rfl) (fun _ _ _ h => h) (Or.inl ⟨by rfl, ?_⟩) ?_ ?_
  rotate_left
  · intro w'
    go_simp
    with_reducible rfl
  rotate_left
  · simp only [Act.put, List.setIfInBounds_toArray, List.set_cons_zero, List.set_cons_succ, i64_w, i32_w]
    rfl
  refine take_ (i := 9) (N := (some 79)) (v := ?_) (a' := ?_) #[true, true, true, true, true, true, true, true, true, true, true, false, false, false] rfl rfl (by kernel_rfl) (fun _ _ _ h => h) (Or.inl ⟨by rfl, ?_⟩) hHeld ?_ ?_
  rotate_left
  · rintro w' ⟨s0, s1, s2⟩
    go_simp
    with_reducible rfl
  rotate_left
  · simp only [Act.put, List.setIfInBounds_toArray, List.set_cons_zero, List.set_cons_succ, i64_w, i32_w]
    rfl
  refine one_ (i := 11) (N := (some 81)) #[true, true, true, true, true, true, true, true, true, true, true, true, false, false] rfl rfl (by kernel_rfl) (by decide) (fun K hK => ?_)
  refine goes_ Try.func121 (by kernel_rfl) rfl #[.pointer (some ⟨gm, 0, none⟩), .int .i64 (k0 : Int), .int .i64 0] (by rfl) rfl rfl (by (try simp only [List.map_toArray, List.map_cons, List.map_nil]); first | done | rfl) ?_
  refine (HE0.out _ HM.out HB.out).mono ?_
  rintro e w_ ⟨v_, rfl, hR_, hM_, hK_, hB_⟩
  refine ⟨_, rfl, ?_⟩
  obtain ⟨HAg, HAc, rfl, HAh⟩ := Row.form hR_
  have HA := Aside0.mk hR_
  have nK := Aside0.mk (HK.out.trans hK_)
  clear HM HB HK hR_
  have HM := Aside0.mk hM_
  have HB := Aside0.mk hB_
  have HK := nK
  clear nK hM_ hB_
  refine hK.out _ _ ⟨MK.cell hK_ (hHeld.1) HGN.out, MK.cell hK_ (hHeld.2.1) (by have := HAD.out; first | exact this | (show ad2.block ≠ gg; exact this)), MK.cell hK_ (hHeld.2.2) (by have := HAD.out; first | exact this | (show ad2.block ≠ gg; exact this))⟩ (fun hHeld => ?_)
  clear hK_
  clear hK K
  refine norm_ (a' := ?_) ?_ ?_
  rotate_left
  · show Act.put _ (some 81) _ = _
    simp only [Act.put, List.setIfInBounds_toArray, List.set_cons_zero, List.set_cons_succ, i64_w, i32_w]
    rfl
  refine one_ (i := 12) (N := (some 82)) #[true, true, true, true, true, true, true, true, true, true, true, true, true, false] rfl rfl (by kernel_rfl) (by decide) (fun K hK => ?_)
  refine goes_ Try.func170 (by kernel_rfl) rfl #[.pointer (some ⟨gm, 0, none⟩), .int .i64 (k1 : Int), .slice (some ⟨HAg, 0, none⟩) 1 HAc] (by rfl) rfl rfl (by (try simp only [List.map_toArray, List.map_cons, List.map_nil]); first | done | rfl) ?_
  refine (step_of k1 HE1.out _ (E k0) _ HM.out HB.out HA.out).mono ?_
  rintro e w_ ⟨v_, rfl, hR_, hM_, hK_, hB_⟩
  refine ⟨_, rfl, ?_⟩
  obtain ⟨HOg, HOc, rfl, HOh⟩ := Row.form hR_
  have HO := Aside0.mk hR_
  have nK := Aside0.mk (HK.out.trans hK_)
  clear HM HB HK hR_
  have HM := Aside0.mk hM_
  have HB := Aside0.mk hB_
  have HK := nK
  clear nK hM_ hB_
  refine hK.out _ _ ⟨MK.cell hK_ (hHeld.1) HGN.out, MK.cell hK_ (hHeld.2.1) (by have := HAD.out; first | exact this | (show ad2.block ≠ gg; exact this)), MK.cell hK_ (hHeld.2.2) (by have := HAD.out; first | exact this | (show ad2.block ≠ gg; exact this))⟩ (fun hHeld => ?_)
  clear hK_
  clear hK K
  refine norm_ (a' := ?_) ?_ ?_
  rotate_left
  · show Act.put _ (some 82) _ = _
    simp only [Act.put, List.setIfInBounds_toArray, List.set_cons_zero, List.set_cons_succ, i64_w, i32_w]
    rfl
  refine pure_ (i := 13) (N := (some 6)) (v := ?_) (a' := ?_) #[true, true, true, true, true, true, true, true, true, true, true, true, true, true] rfl rfl (by kernel_rfl) (fun _ _ _ h => h) (Or.inl ⟨by rfl, ?_⟩) ?_ ?_
  rotate_left
  · intro w'
    go_simp
    with_reducible rfl
  rotate_left
  · simp only [Act.put, List.setIfInBounds_toArray, List.set_cons_zero, List.set_cons_succ, i64_w, i32_w]
    rfl
  refine done_ (by kernel_rfl) ?_
  go_wp2_with fail
  go_ret
  exact ⟨_, rfl, by rw [HE.out]; exact HO.out, HM.out, HK.out, HB.out⟩
set_option maxHeartbeats 16000000 in
set_option maxRecDepth 100000 in
theorem find_alt {w0 : World} {gm gg cn : Nat} {An : Option Addr} {nodes : List S156} {tx : ByteArray} {E : Nat → Bool} (ht : tx.size = 0) (hn : nodes.length ≤ 100000) (k : Nat) (hk1 : k < nodes.length) (hN : Kd.C k156 w0 An nodes.length nodes) (hop : (rd_T156 nodes (k : Int)).f0 = 4) (hlen : (rd_T156 nodes (k : Int)).f2.length = 2) (k0 : Nat) (e0 : rd (rd_T156 nodes (k : Int)).f2 0 = (k0 : Int)) (he0 : EOK w0 gm gg An cn nodes tx E k0) (k1 : Nat) (e1 : rd (rd_T156 nodes (k : Int)).f2 1 = (k1 : Int)) (he1 : EOK w0 gm gg An cn nodes tx E k1) (hE : E k = (E k0 || E k1)) : FOK w0 gm gg An cn nodes tx E k := by
  intro w hM hB
  obtain ⟨ad, A1, c1, A2, c2, rfl, hx0, hx1, hx2, hx3, hx4, _, _, hc2, hC2⟩ := at_T156 hN (k : Int) (by omega) (by omega)
  rw [Int.toNat_natCast] at hx0 hx1 hx2 hx3 hx4
  replace hx0 := (hB.cell (World.block_lt_of_cell? w0 _ hx0)).trans hx0
  replace hx1 := (hB.cell (World.block_lt_of_cell? w0 _ hx1)).trans hx1
  replace hx2 := (hB.cell (World.block_lt_of_cell? w0 _ hx2)).trans hx2
  replace hx3 := (hB.cell (World.block_lt_of_cell? w0 _ hx3)).trans hx3
  replace hx4 := (hB.cell (World.block_lt_of_cell? w0 _ hx4)).trans hx4
  obtain ⟨x, hxd⟩ : ∃ x, rd_T156 nodes (k : Int) = x := ⟨_, rfl⟩
  rw [hxd] at hx0 hx1 hx2 hx3 hx4 hc2 hC2 hop hlen e0 e1
  rw [hop] at hx0
  clear hxd
  obtain ⟨ad2, rfl, hkc0⟩ := Kd.at_int hC2 0 (by omega) (by rw [hlen]; decide)
  rw [e0] at hkc0
  rw [show (0 : Int).toNat = 0 from rfl] at hkc0
  obtain ⟨ad3, e3, hkc1⟩ := Kd.at_int hC2 1 (by omega) (by rw [hlen]; decide)
  cases e3
  rw [e1] at hkc1
  rw [show (1 : Int).toNat = 1 from rfl] at hkc1
  rw [hlen] at hx2
  clear hC2 hc2 hlen
  obtain ⟨cg, hG, hcg, hgm⟩ := Memo.head hM
  have hm0 : w.cell? ⟨gm, 0, none⟩ = some (.slice (some ad) nodes.length cn) := (blk_cell hG 0).trans rfl
  have hm1 : w.cell? ⟨gm, 1, none⟩ = some (.string tx) := (blk_cell hG 1).trans rfl
  have ha1 : (w.alloc (.cells #[.int .i64 4, .slice A1 x.f1.length c1, .slice (some ad2) 2 c2, .int .i64 x.f3, .int .i64 x.f4] 156)).cell? ⟨gm, 1, none⟩ = some (.string tx) := (blk_cell (blk_alloc hG _) 1).trans rfl
  have hkz : (k : Int) < (nodes.length : Int) := by omega
  have hk0 : (0 : Int) ≤ (k : Int) := by omega
  obtain ⟨gn, hgn⟩ : ∃ gn, w.heap.size = gn := ⟨_, rfl⟩
  have HGN : Aside0 (gn ≠ gg) := ⟨by have := Memo.gg_lt hM; omega⟩
  have BN : Aside0 ((w.alloc (.cells #[.int .i64 4, .slice A1 x.f1.length c1, .slice (some ad2) 2 c2, .int .i64 x.f3, .int .i64 x.f4] 156)).heap[gn]? = some (.cells #[.int .i64 4, .slice A1 x.f1.length c1, .slice (some ad2) 2 c2, .int .i64 x.f3, .int .i64 x.f4] 156 (0, 0))) := ⟨by rw [← hgn]; exact blk_new w _⟩
  have HK := Aside0.mk (MK.below (gg := gg) (below_alloc (Below.refl w.heap.size w) (.cells #[.int .i64 4, .slice A1 x.f1.length c1, .slice (some ad2) 2 c2, .int .i64 x.f3, .int .i64 x.f4] 156)))
  have HB := Aside0.mk (below_alloc hB (.cells #[.int .i64 4, .slice A1 x.f1.length c1, .slice (some ad2) 2 c2, .int .i64 x.f3, .int .i64 x.f4] 156))
  have HM := Aside0.mk (Memo.below hM (below_alloc (Below.refl w.heap.size w) (.cells #[.int .i64 4, .slice A1 x.f1.length c1, .slice (some ad2) 2 c2, .int .i64 x.f3, .int .i64 x.f4] 156)))
  have HE := Aside0.mk hE
  clear hG hM hB hE
  go_enter Try.func157, Try.ntmps157
  go_upto_region 5 with (first | ((with_reducible refine gate_dst (N := 26) rfl ?_); refine Kd.R_make Kd.bool _ 4 rfl (N := 26) rfl 124 _ _ rfl (1 : Int) rfl rfl Try.underlying124 (.bool false) 1 info4 rfl (by decide) (by omega) false (ok := fun _ => True) (okp := fun _ => True) rfl (fun _ hk => hk) trivial (by omega) (by decide) (Below.refl _ _) (Nat.le_refl _) ?_; intro H8v w_ ho hb hg_ hnew_; clear hg_; replace ho : Kd.R Kd.bool 4 w_ _ (fun _ => True) H8v [false] := ho; have H8 := Aside0.mk (Row.new ho HB.out (Memo.gg_lt HM.out)); have nBN := Aside0.mk (blk_below BN.out hb); clear BN; have BN := nBN; clear nBN; have nM := Aside0.mk (Memo.below HM.out hb); have nB := Aside0.mk (below_step HB.out hb); have nK := Aside0.mk (HK.out.trans (MK.below hb)); clear HM HB HK ho hb hnew_; have HM := nM; have HB := nB; have HK := nK; clear nM nB nK; obtain ⟨cg_, hG_, _, _⟩ := Memo.head HM.out; have ha2 : w_.cell? ⟨gm, 1, none⟩ = some (.string tx) := (blk_cell hG_ 1).trans rfl; clear hG_) | ((with_reducible refine gate_dst (N := 33) rfl ?_); refine Kd.R_make Kd.bool _ 4 rfl (N := 33) rfl 124 _ _ rfl (1 : Int) rfl rfl Try.underlying124 (.bool false) 1 info4 rfl (by decide) (by omega) false (ok := fun _ => True) (okp := fun _ => True) rfl (fun _ hk => hk) trivial (by omega) (by decide) (Below.refl _ _) (Nat.le_refl _) ?_; intro H9v w_ ho hb hg_ hnew_; clear hg_; replace ho : Kd.R Kd.bool 4 w_ _ (fun _ => True) H9v [false] := ho; have H9 := Aside0.mk (Row.new ho HB.out (Memo.gg_lt HM.out)); have HX1 : ∃ W1 : World, Memo w0 gm gg (some ad) cn nodes tx E W1 ∧ Row w0 W1 gg H8v false ∧ W1.heap[gn]? = some (.cells #[.int .i64 4, .slice A1 x.f1.length c1, .slice (some ad2) 2 c2, .int .i64 x.f3, .int .i64 x.f4] 156 (0, 0)) ∧ Below W1.heap.size W1 w_ ∧ (∃ b_, H9v.ownBlock = some b_ ∧ W1.heap.size ≤ b_) ∧ Below w0.heap.size w0 W1 ∧ MK gg w W1 := ⟨_, HM.out, H8.out, BN.out, hb, hnew_, HB.out, HK.out⟩; have nH8 := Aside0.mk (Row.keep H8.out (MK.below hb)); clear H8; have H8 := nH8; clear nH8; have nBN := Aside0.mk (blk_below BN.out hb); clear BN; have BN := nBN; clear nBN; have nM := Aside0.mk (Memo.below HM.out hb); have nB := Aside0.mk (below_step HB.out hb); have nK := Aside0.mk (HK.out.trans (MK.below hb)); clear HM HB HK ho hb hnew_; have HM := nM; have HB := nB; have HK := nK; clear nM nB nK; obtain ⟨H9g, H9c, rfl, H9h⟩ := Row.form H9.out; have hx9 := Row.cell H9.out; have hf9 := Row.frozen H9.out))
  obtain ⟨W1, hM1, h81, hBN1, hb1, ⟨g9', e9, hg9⟩, hB1, hK1⟩ := HX1
  obtain rfl : H9g = g9' := by simpa [Value.ownBlock] using e9
  have Hbs := below_set hb1 hg9 (j := 0) (v := .bool true)
  have nH9 := Aside0.mk ((Kd.R_put H9.out 0 true).1)
  clear H8 H9 HM HB HK BN
  have HM := Aside0.mk (Memo.below hM1 Hbs)
  have H8 := Aside0.mk (Row.keep h81 (MK.below (gg := gg) Hbs))
  have HK := Aside0.mk (hK1.trans (MK.below (gg := gg) Hbs))
  have HB := Aside0.mk (below_step hB1 Hbs)
  have BN := Aside0.mk (blk_below hBN1 Hbs)
  have H9 : Aside0 (Row w0 (w_.setCell ⟨H9g, 0, none⟩ (.bool true)) gg (.slice (some ⟨H9g, 0, none⟩) 1 H9c) true) := nH9
  clear nH9 Hbs hM1 h81 hBN1 hb1 hg9 e9 hB1 hK1 hx9 hf9
  generalize w_.setCell ⟨H9g, 0, none⟩ (.bool true) = w9 at *
  obtain ⟨H8g, H8c, rfl, hH8⟩ := Row.form H8.out
  obtain ⟨cg_, hG_, _, _⟩ := Memo.head HM.out
  have ht1 : w9.cell? ⟨gm, 1, none⟩ = some (.string tx) := (blk_cell hG_ 1).trans rfl
  clear hG_
  have hn0 : w9.cell? ⟨gn, 0, none⟩ = some (.int .i64 4) := (blk_cell BN.out 0).trans rfl
  have hn2 : w9.cell? ⟨gn, 2, none⟩ = some (.slice (some ad2) 2 c2) := (blk_cell BN.out 2).trans rfl
  have hn3 : w9.cell? ⟨gn, 3, none⟩ = some (.int .i64 x.f3) := (blk_cell BN.out 3).trans rfl
  have hn4 : w9.cell? ⟨gn, 4, none⟩ = some (.int .i64 x.f4) := (blk_cell BN.out 4).trans rfl
  have hq0 := (HB.out.cell (World.block_lt_of_cell? w0 _ hkc0)).trans hkc0
  have hq1 := (HB.out.cell (World.block_lt_of_cell? w0 _ hkc1)).trans hkc1
  have hz0 := hq0
  rw [show ad2.add 0 = ad2 by cases ad2; rfl] at hz0
  have HE0 := Aside0.mk he0
  have HE1 := Aside0.mk he1
  have hkb := hkc0
  clear hkc0 he0 hkc1 he1
  have hs_ := World.cell?_spot hz0
  rw [show ad2.add 1 = ⟨ad2.block, ad2.off + 1, none⟩ by (obtain ⟨b_, o_, s_⟩ := ad2; simp only at hs_; subst hs_; rfl)] at hq1
  go_wp2_with fail
  replace HM : Aside0 (Memo w0 gm gg (some ad) cn nodes tx E w9.drew) := ⟨Memo.below HM.out (below_drew1 (Below.refl _ _))⟩
  replace HB : Aside0 (Below w0.heap.size w0 w9.drew) := ⟨below_drew1 HB.out⟩
  replace HK : Aside0 (MK gg w w9.drew) := ⟨HK.out.trans (MK.below (below_drew1 (Below.refl _ _)))⟩
  replace BN := Aside0.mk (blk_drew BN.out)
  have HAD : Aside0 (ad2.block ≠ gg) := ⟨by have h1 := World.block_lt_of_cell? w0 _ hkb; have h2 := Memo.gg_ge HM.out; rw [add_block] at h1; omega⟩
  refine start_ (n := 16) (S := fun w' => w'.cell? ⟨gn, 2, none⟩ = some (.slice (some ad2) 2 c2) ∧ w'.cell? ad2 = some (.int .i64 (k0 : Int)) ∧ w'.cell? ⟨ad2.block, ad2.off + 1, none⟩ = some (.int .i64 (k1 : Int))) (ds := []) #[false, false, false, false, false, false, false, false, false, false, false, false, false, false, false, false] (by kernel_rfl) rfl rfl ⟨(blk_cell BN.out 2).trans rfl, hz0, hq1⟩ (fun hHeld => ?_)
  generalize hW1 : w9.drew = W1 at HM HB HK BN hHeld ⊢
  refine pure_ (i := 0) (N := (some 85)) (v := ?_) (a' := ?_) #[true, false, false, false, false, false, false, false, false, false, false, false, false, false, false, false] rfl rfl (by kernel_rfl) (fun _ _ _ h => h) (Or.inl ⟨by rfl, ?_⟩) ?_ ?_
  rotate_left
  · intro w'
    go_simp
    with_reducible rfl
  rotate_left
  · simp only [Act.put, List.setIfInBounds_toArray, List.set_cons_zero, List.set_cons_succ, i64_w, i32_w]
    rfl
  refine pure_ (i := 1) (N := (some 86)) (v := ?_) (a' := ?_) #[true, true, false, false, false, false, false, false, false, false, false, false, false, false, false, false] rfl rfl (by kernel_rfl) (fun _ _ _ h => h) (Or.inl ⟨by rfl, ?_⟩) ?_ ?_
  rotate_left
  · intro w'
    go_simp
    with_reducible rfl
  rotate_left
  · simp only [Act.put, List.setIfInBounds_toArray, List.set_cons_zero, List.set_cons_succ, i64_w, i32_w]
    rfl
  refine pure_ (i := 5) (N := (some 90)) (v := ?_) (a' := ?_) #[true, true, false, false, false, true, false, false, false, false, false, false, false, false, false, false] rfl rfl (by kernel_rfl) (fun _ _ _ h => h) (Or.inl ⟨by rfl, ?_⟩) ?_ ?_
  rotate_left
  · intro w'
    go_simp
    with_reducible rfl
  rotate_left
  · simp only [Act.put, List.setIfInBounds_toArray, List.set_cons_zero, List.set_cons_succ, i64_w, i32_w]
    rfl
  refine pure_ (i := 7) (N := (some 92)) (v := ?_) (a' := ?_) #[true, true, false, false, false, true, false, true, false, false, false, false, false, false, false, false] rfl rfl (by kernel_rfl) (fun _ _ _ h => h) (Or.inl ⟨by rfl, ?_⟩) ?_ ?_
  rotate_left
  · intro w'
    go_simp
    with_reducible rfl
  rotate_left
  · simp only [Act.put, List.setIfInBounds_toArray, List.set_cons_zero, List.set_cons_succ, i64_w, i32_w]
    rfl
  refine pure_ (i := 8) (N := (some 93)) (v := ?_) (a' := ?_) #[true, true, false, false, false, true, false, true, true, false, false, false, false, false, false, false] rfl rfl (by kernel_rfl) (fun _ _ _ h => h) (Or.inl ⟨by rfl, ?_⟩) ?_ ?_
  rotate_left
  · intro w'
    go_simp
    with_reducible rfl
  rotate_left
  · simp only [Act.put, List.setIfInBounds_toArray, List.set_cons_zero, List.set_cons_succ, i64_w, i32_w]
    rfl
  refine pure_ (i := 12) (N := (some 97)) (v := ?_) (a' := ?_) #[true, true, false, false, false, true, false, true, true, false, false, false, true, false, false, false] rfl rfl (by kernel_rfl) (fun _ _ _ h => h) (Or.inl ⟨by rfl, ?_⟩) ?_ ?_
  rotate_left
  · intro w'
    go_simp
    with_reducible rfl
  rotate_left
  · simp only [Act.put, List.setIfInBounds_toArray, List.set_cons_zero, List.set_cons_succ, i64_w, i32_w]
    rfl
  refine take_ (i := 2) (N := (some 87)) (v := ?_) (a' := ?_) #[true, true, true, false, false, true, false, true, true, false, false, false, true, false, false, false] rfl rfl (by kernel_rfl) (fun _ _ _ h => h) (Or.inl ⟨by rfl, ?_⟩) hHeld ?_ ?_
  rotate_left
  · rintro w' ⟨s0, s1, s2⟩
    go_simp
    with_reducible rfl
  rotate_left
  · simp only [Act.put, List.setIfInBounds_toArray, List.set_cons_zero, List.set_cons_succ, i64_w, i32_w]
    rfl
  refine pure_ (i := 3) (N := (some 88)) (v := ?_) (a' := ?_) #[true, true, true, true, false, true, false, true, true, false, false, false, true, false, false, false] rfl rfl (by kernel_rfl) (fun _ _ _ h => h) (Or.inl ⟨by rfl, ?_⟩) ?_ ?_
  rotate_left
  · intro w'
    go_simp
    with_reducible rfl
  rotate_left
  · simp only [Act.put, List.setIfInBounds_toArray, List.set_cons_zero, List.set_cons_succ, i64_w, i32_w]
    rfl
  refine take_ (i := 4) (N := (some 89)) (v := ?_) (a' := ?_) #[true, true, true, true, true, true, false, true, true, false, false, false, true, false, false, false] rfl rfl (by kernel_rfl) (fun _ _ _ h => h) (Or.inl ⟨by rfl, ?_⟩) hHeld ?_ ?_
  rotate_left
  · rintro w' ⟨s0, s1, s2⟩
    go_simp
    with_reducible rfl
  rotate_left
  · simp only [Act.put, List.setIfInBounds_toArray, List.set_cons_zero, List.set_cons_succ, i64_w, i32_w]
    rfl
  refine take_ (i := 9) (N := (some 94)) (v := ?_) (a' := ?_) #[true, true, true, true, true, true, false, true, true, true, false, false, true, false, false, false] rfl rfl (by kernel_rfl) (fun _ _ _ h => h) (Or.inl ⟨by rfl, ?_⟩) hHeld ?_ ?_
  rotate_left
  · rintro w' ⟨s0, s1, s2⟩
    go_simp
    with_reducible rfl
  rotate_left
  · simp only [Act.put, List.setIfInBounds_toArray, List.set_cons_zero, List.set_cons_succ, i64_w, i32_w]
    rfl
  refine pure_ (i := 10) (N := (some 95)) (v := ?_) (a' := ?_) #[true, true, true, true, true, true, false, true, true, true, true, false, true, false, false, false] rfl rfl (by kernel_rfl) (fun _ _ _ h => h) (Or.inl ⟨by rfl, ?_⟩) ?_ ?_
  rotate_left
  · intro w'
    go_simp
    with_reducible rfl
  rotate_left
  · simp only [Act.put, List.setIfInBounds_toArray, List.set_cons_zero, List.set_cons_succ, i64_w, i32_w]
    rfl
  refine take_ (i := 11) (N := (some 96)) (v := ?_) (a' := ?_) #[true, true, true, true, true, true, false, true, true, true, true, true, true, false, false, false] rfl rfl (by kernel_rfl) (fun _ _ _ h => h) (Or.inl ⟨by rfl, ?_⟩) hHeld ?_ ?_
  rotate_left
  · rintro w' ⟨s0, s1, s2⟩
    go_simp
    with_reducible rfl
  rotate_left
  · simp only [Act.put, List.setIfInBounds_toArray, List.set_cons_zero, List.set_cons_succ, i64_w, i32_w]
    rfl
  refine one_ (i := 6) (N := (some 91)) #[true, true, true, true, true, true, true, true, true, true, true, true, true, false, false, false] rfl rfl (by kernel_rfl) (by decide) (fun K hK => ?_)
  refine goes_ Try.func121 (by kernel_rfl) rfl #[.pointer (some ⟨gm, 0, none⟩), .int .i64 (k0 : Int), .int .i64 0] (by rfl) rfl rfl (by (try simp only [List.map_toArray, List.map_cons, List.map_nil]); first | done | rfl) ?_
  refine (HE0.out _ HM.out HB.out).mono ?_
  rintro e w_ ⟨v_, rfl, hR_, hM_, hK_, hB_⟩
  refine ⟨_, rfl, ?_⟩
  obtain ⟨HAg, HAc, rfl, HAh⟩ := Row.form hR_
  have HA := Aside0.mk hR_
  have nK := Aside0.mk (HK.out.trans hK_)
  clear HM HB HK hR_
  have HM := Aside0.mk hM_
  have HB := Aside0.mk hB_
  have HK := nK
  clear nK hM_ hB_
  refine hK.out _ _ ⟨MK.cell hK_ (hHeld.1) HGN.out, MK.cell hK_ (hHeld.2.1) (by have := HAD.out; first | exact this | (show ad2.block ≠ gg; exact this)), MK.cell hK_ (hHeld.2.2) (by have := HAD.out; first | exact this | (show ad2.block ≠ gg; exact this))⟩ (fun hHeld => ?_)
  clear hK_
  clear hK K
  refine norm_ (a' := ?_) ?_ ?_
  rotate_left
  · show Act.put _ (some 91) _ = _
    simp only [Act.put, List.setIfInBounds_toArray, List.set_cons_zero, List.set_cons_succ, i64_w, i32_w]
    rfl
  refine one_ (i := 13) (N := (some 98)) #[true, true, true, true, true, true, true, true, true, true, true, true, true, true, false, false] rfl rfl (by kernel_rfl) (by decide) (fun K hK => ?_)
  refine goes_ Try.func121 (by kernel_rfl) rfl #[.pointer (some ⟨gm, 0, none⟩), .int .i64 (k1 : Int), .int .i64 0] (by rfl) rfl rfl (by (try simp only [List.map_toArray, List.map_cons, List.map_nil]); first | done | rfl) ?_
  refine (HE1.out _ HM.out HB.out).mono ?_
  rintro e w_ ⟨v_, rfl, hR_, hM_, hK_, hB_⟩
  refine ⟨_, rfl, ?_⟩
  obtain ⟨HCg, HCc, rfl, HCh⟩ := Row.form hR_
  have HC := Aside0.mk hR_
  have nHA := Aside0.mk (Row.keep HA.out hK_)
  clear HA
  have HA := nHA
  clear nHA
  have nK := Aside0.mk (HK.out.trans hK_)
  clear HM HB HK hR_
  have HM := Aside0.mk hM_
  have HB := Aside0.mk hB_
  have HK := nK
  clear nK hM_ hB_
  refine hK.out _ _ ⟨MK.cell hK_ (hHeld.1) HGN.out, MK.cell hK_ (hHeld.2.1) (by have := HAD.out; first | exact this | (show ad2.block ≠ gg; exact this)), MK.cell hK_ (hHeld.2.2) (by have := HAD.out; first | exact this | (show ad2.block ≠ gg; exact this))⟩ (fun hHeld => ?_)
  clear hK_
  clear hK K
  refine norm_ (a' := ?_) ?_ ?_
  rotate_left
  · show Act.put _ (some 98) _ = _
    simp only [Act.put, List.setIfInBounds_toArray, List.set_cons_zero, List.set_cons_succ, i64_w, i32_w]
    rfl
  refine one_ (i := 14) (N := (some 99)) #[true, true, true, true, true, true, true, true, true, true, true, true, true, true, true, false] rfl rfl (by kernel_rfl) (by decide) (fun K hK => ?_)
  refine goes_ Try.func171 (by kernel_rfl) rfl #[.slice (some ⟨HAg, 0, none⟩) 1 HAc, .slice (some ⟨HCg, 0, none⟩) 1 HCc] (by rfl) rfl rfl (by (try simp only [List.map_toArray, List.map_cons, List.map_nil]); first | done | rfl) ?_
  obtain ⟨k_, hk_⟩ := or_one (E k0) (E k1)
  refine (spec_l4Or.calls k_ _ _ [(E k0)] _ _ [(E k1)] _ _ (Row.C HA.out) (Kd.R_reads' HA.out).2.1 (Row.C HC.out) (Kd.R_reads' HC.out).2.1 hk_).mono ?_
  rintro e w_ ⟨v_, rfl, ho, hb⟩
  have hR_ := Row.new ho HB.out (Memo.gg_lt HM.out)
  have hM_ := Memo.below HM.out hb
  have hB_ := below_step HB.out hb
  have hK_ := MK.below (gg := gg) hb
  clear ho hb hk_
  refine ⟨_, rfl, ?_⟩
  obtain ⟨HOg, HOc, rfl, HOh⟩ := Row.form hR_
  have HO := Aside0.mk hR_
  have nK := Aside0.mk (HK.out.trans hK_)
  clear HM HB HK hR_
  have HM := Aside0.mk hM_
  have HB := Aside0.mk hB_
  have HK := nK
  clear nK hM_ hB_
  refine hK.out _ _ ⟨MK.cell hK_ (hHeld.1) HGN.out, MK.cell hK_ (hHeld.2.1) (by have := HAD.out; first | exact this | (show ad2.block ≠ gg; exact this)), MK.cell hK_ (hHeld.2.2) (by have := HAD.out; first | exact this | (show ad2.block ≠ gg; exact this))⟩ (fun hHeld => ?_)
  clear hK_
  clear hK K
  refine norm_ (a' := ?_) ?_ ?_
  rotate_left
  · show Act.put _ (some 99) _ = _
    simp only [Act.put, List.setIfInBounds_toArray, List.set_cons_zero, List.set_cons_succ, i64_w, i32_w]
    rfl
  refine pure_ (i := 15) (N := (some 6)) (v := ?_) (a' := ?_) #[true, true, true, true, true, true, true, true, true, true, true, true, true, true, true, true] rfl rfl (by kernel_rfl) (fun _ _ _ h => h) (Or.inl ⟨by rfl, ?_⟩) ?_ ?_
  rotate_left
  · intro w'
    go_simp
    with_reducible rfl
  rotate_left
  · simp only [Act.put, List.setIfInBounds_toArray, List.set_cons_zero, List.set_cons_succ, i64_w, i32_w]
    rfl
  refine done_ (by kernel_rfl) ?_
  go_wp2_with fail
  go_ret
  exact ⟨_, rfl, by rw [HE.out]; exact HO.out, HM.out, HK.out, HB.out⟩
set_option maxHeartbeats 16000000 in
set_option maxRecDepth 100000 in
theorem find_plus {w0 : World} {gm gg cn : Nat} {An : Option Addr} {nodes : List S156} {tx : ByteArray} {E : Nat → Bool} (ht : tx.size = 0) (hn : nodes.length ≤ 100000) (k : Nat) (hk1 : k < nodes.length) (hN : Kd.C k156 w0 An nodes.length nodes) (hop : (rd_T156 nodes (k : Int)).f0 = 6) (hlen : (rd_T156 nodes (k : Int)).f2.length = 1) (k0 : Nat) (e0 : rd (rd_T156 nodes (k : Int)).f2 0 = (k0 : Int)) (he0 : EOK w0 gm gg An cn nodes tx E k0) (hE : E k = E k0) : FOK w0 gm gg An cn nodes tx E k := by
  intro w hM hB
  obtain ⟨ad, A1, c1, A2, c2, rfl, hx0, hx1, hx2, hx3, hx4, _, _, hc2, hC2⟩ := at_T156 hN (k : Int) (by omega) (by omega)
  rw [Int.toNat_natCast] at hx0 hx1 hx2 hx3 hx4
  replace hx0 := (hB.cell (World.block_lt_of_cell? w0 _ hx0)).trans hx0
  replace hx1 := (hB.cell (World.block_lt_of_cell? w0 _ hx1)).trans hx1
  replace hx2 := (hB.cell (World.block_lt_of_cell? w0 _ hx2)).trans hx2
  replace hx3 := (hB.cell (World.block_lt_of_cell? w0 _ hx3)).trans hx3
  replace hx4 := (hB.cell (World.block_lt_of_cell? w0 _ hx4)).trans hx4
  obtain ⟨x, hxd⟩ : ∃ x, rd_T156 nodes (k : Int) = x := ⟨_, rfl⟩
  rw [hxd] at hx0 hx1 hx2 hx3 hx4 hc2 hC2 hop hlen e0
  rw [hop] at hx0
  clear hxd
  obtain ⟨ad2, rfl, hkc0⟩ := Kd.at_int hC2 0 (by omega) (by rw [hlen]; decide)
  rw [e0] at hkc0
  rw [show (0 : Int).toNat = 0 from rfl] at hkc0
  rw [hlen] at hx2
  clear hC2 hc2 hlen
  obtain ⟨cg, hG, hcg, hgm⟩ := Memo.head hM
  have hm0 : w.cell? ⟨gm, 0, none⟩ = some (.slice (some ad) nodes.length cn) := (blk_cell hG 0).trans rfl
  have hm1 : w.cell? ⟨gm, 1, none⟩ = some (.string tx) := (blk_cell hG 1).trans rfl
  have ha1 : (w.alloc (.cells #[.int .i64 6, .slice A1 x.f1.length c1, .slice (some ad2) 1 c2, .int .i64 x.f3, .int .i64 x.f4] 156)).cell? ⟨gm, 1, none⟩ = some (.string tx) := (blk_cell (blk_alloc hG _) 1).trans rfl
  have hkz : (k : Int) < (nodes.length : Int) := by omega
  have hk0 : (0 : Int) ≤ (k : Int) := by omega
  obtain ⟨gn, hgn⟩ : ∃ gn, w.heap.size = gn := ⟨_, rfl⟩
  have HGN : Aside0 (gn ≠ gg) := ⟨by have := Memo.gg_lt hM; omega⟩
  have BN : Aside0 ((w.alloc (.cells #[.int .i64 6, .slice A1 x.f1.length c1, .slice (some ad2) 1 c2, .int .i64 x.f3, .int .i64 x.f4] 156)).heap[gn]? = some (.cells #[.int .i64 6, .slice A1 x.f1.length c1, .slice (some ad2) 1 c2, .int .i64 x.f3, .int .i64 x.f4] 156 (0, 0))) := ⟨by rw [← hgn]; exact blk_new w _⟩
  have HK := Aside0.mk (MK.below (gg := gg) (below_alloc (Below.refl w.heap.size w) (.cells #[.int .i64 6, .slice A1 x.f1.length c1, .slice (some ad2) 1 c2, .int .i64 x.f3, .int .i64 x.f4] 156)))
  have HB := Aside0.mk (below_alloc hB (.cells #[.int .i64 6, .slice A1 x.f1.length c1, .slice (some ad2) 1 c2, .int .i64 x.f3, .int .i64 x.f4] 156))
  have HM := Aside0.mk (Memo.below hM (below_alloc (Below.refl w.heap.size w) (.cells #[.int .i64 6, .slice A1 x.f1.length c1, .slice (some ad2) 1 c2, .int .i64 x.f3, .int .i64 x.f4] 156)))
  have HE := Aside0.mk hE
  clear hG hM hB hE
  go_enter Try.func157, Try.ntmps157
  go_upto_region 5 with (first | ((with_reducible refine gate_dst (N := 26) rfl ?_); refine Kd.R_make Kd.bool _ 4 rfl (N := 26) rfl 124 _ _ rfl (1 : Int) rfl rfl Try.underlying124 (.bool false) 1 info4 rfl (by decide) (by omega) false (ok := fun _ => True) (okp := fun _ => True) rfl (fun _ hk => hk) trivial (by omega) (by decide) (Below.refl _ _) (Nat.le_refl _) ?_; intro H8v w_ ho hb hg_ hnew_; clear hg_; replace ho : Kd.R Kd.bool 4 w_ _ (fun _ => True) H8v [false] := ho; have H8 := Aside0.mk (Row.new ho HB.out (Memo.gg_lt HM.out)); have nBN := Aside0.mk (blk_below BN.out hb); clear BN; have BN := nBN; clear nBN; have nM := Aside0.mk (Memo.below HM.out hb); have nB := Aside0.mk (below_step HB.out hb); have nK := Aside0.mk (HK.out.trans (MK.below hb)); clear HM HB HK ho hb hnew_; have HM := nM; have HB := nB; have HK := nK; clear nM nB nK; obtain ⟨cg_, hG_, _, _⟩ := Memo.head HM.out; have ha2 : w_.cell? ⟨gm, 1, none⟩ = some (.string tx) := (blk_cell hG_ 1).trans rfl; clear hG_) | ((with_reducible refine gate_dst (N := 33) rfl ?_); refine Kd.R_make Kd.bool _ 4 rfl (N := 33) rfl 124 _ _ rfl (1 : Int) rfl rfl Try.underlying124 (.bool false) 1 info4 rfl (by decide) (by omega) false (ok := fun _ => True) (okp := fun _ => True) rfl (fun _ hk => hk) trivial (by omega) (by decide) (Below.refl _ _) (Nat.le_refl _) ?_; intro H9v w_ ho hb hg_ hnew_; clear hg_; replace ho : Kd.R Kd.bool 4 w_ _ (fun _ => True) H9v [false] := ho; have H9 := Aside0.mk (Row.new ho HB.out (Memo.gg_lt HM.out)); have HX1 : ∃ W1 : World, Memo w0 gm gg (some ad) cn nodes tx E W1 ∧ Row w0 W1 gg H8v false ∧ W1.heap[gn]? = some (.cells #[.int .i64 6, .slice A1 x.f1.length c1, .slice (some ad2) 1 c2, .int .i64 x.f3, .int .i64 x.f4] 156 (0, 0)) ∧ Below W1.heap.size W1 w_ ∧ (∃ b_, H9v.ownBlock = some b_ ∧ W1.heap.size ≤ b_) ∧ Below w0.heap.size w0 W1 ∧ MK gg w W1 := ⟨_, HM.out, H8.out, BN.out, hb, hnew_, HB.out, HK.out⟩; have nH8 := Aside0.mk (Row.keep H8.out (MK.below hb)); clear H8; have H8 := nH8; clear nH8; have nBN := Aside0.mk (blk_below BN.out hb); clear BN; have BN := nBN; clear nBN; have nM := Aside0.mk (Memo.below HM.out hb); have nB := Aside0.mk (below_step HB.out hb); have nK := Aside0.mk (HK.out.trans (MK.below hb)); clear HM HB HK ho hb hnew_; have HM := nM; have HB := nB; have HK := nK; clear nM nB nK; obtain ⟨H9g, H9c, rfl, H9h⟩ := Row.form H9.out; have hx9 := Row.cell H9.out; have hf9 := Row.frozen H9.out))
  obtain ⟨W1, hM1, h81, hBN1, hb1, ⟨g9', e9, hg9⟩, hB1, hK1⟩ := HX1
  obtain rfl : H9g = g9' := by simpa [Value.ownBlock] using e9
  have Hbs := below_set hb1 hg9 (j := 0) (v := .bool true)
  have nH9 := Aside0.mk ((Kd.R_put H9.out 0 true).1)
  clear H8 H9 HM HB HK BN
  have HM := Aside0.mk (Memo.below hM1 Hbs)
  have H8 := Aside0.mk (Row.keep h81 (MK.below (gg := gg) Hbs))
  have HK := Aside0.mk (hK1.trans (MK.below (gg := gg) Hbs))
  have HB := Aside0.mk (below_step hB1 Hbs)
  have BN := Aside0.mk (blk_below hBN1 Hbs)
  have H9 : Aside0 (Row w0 (w_.setCell ⟨H9g, 0, none⟩ (.bool true)) gg (.slice (some ⟨H9g, 0, none⟩) 1 H9c) true) := nH9
  clear nH9 Hbs hM1 h81 hBN1 hb1 hg9 e9 hB1 hK1 hx9 hf9
  generalize w_.setCell ⟨H9g, 0, none⟩ (.bool true) = w9 at *
  obtain ⟨H8g, H8c, rfl, hH8⟩ := Row.form H8.out
  obtain ⟨cg_, hG_, _, _⟩ := Memo.head HM.out
  have ht1 : w9.cell? ⟨gm, 1, none⟩ = some (.string tx) := (blk_cell hG_ 1).trans rfl
  clear hG_
  have hn0 : w9.cell? ⟨gn, 0, none⟩ = some (.int .i64 6) := (blk_cell BN.out 0).trans rfl
  have hn2 : w9.cell? ⟨gn, 2, none⟩ = some (.slice (some ad2) 1 c2) := (blk_cell BN.out 2).trans rfl
  have hn3 : w9.cell? ⟨gn, 3, none⟩ = some (.int .i64 x.f3) := (blk_cell BN.out 3).trans rfl
  have hn4 : w9.cell? ⟨gn, 4, none⟩ = some (.int .i64 x.f4) := (blk_cell BN.out 4).trans rfl
  have hq0 := (HB.out.cell (World.block_lt_of_cell? w0 _ hkc0)).trans hkc0
  have hz0 := hq0
  rw [show ad2.add 0 = ad2 by cases ad2; rfl] at hz0
  have HE0 := Aside0.mk he0
  have hkb := hkc0
  clear hkc0 he0
  go_wp2_with fail
  replace HM : Aside0 (Memo w0 gm gg (some ad) cn nodes tx E w9.drew) := ⟨Memo.below HM.out (below_drew1 (Below.refl _ _))⟩
  replace HB : Aside0 (Below w0.heap.size w0 w9.drew) := ⟨below_drew1 HB.out⟩
  replace HK : Aside0 (MK gg w w9.drew) := ⟨HK.out.trans (MK.below (below_drew1 (Below.refl _ _)))⟩
  replace BN := Aside0.mk (blk_drew BN.out)
  have HAD : Aside0 (ad2.block ≠ gg) := ⟨by have h1 := World.block_lt_of_cell? w0 _ hkb; have h2 := Memo.gg_ge HM.out; rw [add_block] at h1; omega⟩
  refine start_ (n := 14) (S := fun w' => w'.cell? ⟨gn, 2, none⟩ = some (.slice (some ad2) 1 c2) ∧ w'.cell? ad2 = some (.int .i64 (k0 : Int))) (ds := []) #[false, false, false, false, false, false, false, false, false, false, false, false, false, false] (by kernel_rfl) rfl rfl ⟨(blk_cell BN.out 2).trans rfl, hz0⟩ (fun hHeld => ?_)
  generalize hW1 : w9.drew = W1 at HM HB HK BN hHeld ⊢
  refine pure_ (i := 0) (N := (some 111)) (v := ?_) (a' := ?_) #[true, false, false, false, false, false, false, false, false, false, false, false, false, false] rfl rfl (by kernel_rfl) (fun _ _ _ h => h) (Or.inl ⟨by rfl, ?_⟩) ?_ ?_
  rotate_left
  · intro w'
    go_simp
    with_reducible rfl
  rotate_left
  · simp only [Act.put, List.setIfInBounds_toArray, List.set_cons_zero, List.set_cons_succ, i64_w, i32_w]
    rfl
  refine pure_ (i := 1) (N := (some 112)) (v := ?_) (a' := ?_) #[true, true, false, false, false, false, false, false, false, false, false, false, false, false] rfl rfl (by kernel_rfl) (fun _ _ _ h => h) (Or.inl ⟨by rfl, ?_⟩) ?_ ?_
  rotate_left
  · intro w'
    go_simp
    with_reducible rfl
  rotate_left
  · simp only [Act.put, List.setIfInBounds_toArray, List.set_cons_zero, List.set_cons_succ, i64_w, i32_w]
    rfl
  refine pure_ (i := 5) (N := (some 116)) (v := ?_) (a' := ?_) #[true, true, false, false, false, true, false, false, false, false, false, false, false, false] rfl rfl (by kernel_rfl) (fun _ _ _ h => h) (Or.inl ⟨by rfl, ?_⟩) ?_ ?_
  rotate_left
  · intro w'
    go_simp
    with_reducible rfl
  rotate_left
  · simp only [Act.put, List.setIfInBounds_toArray, List.set_cons_zero, List.set_cons_succ, i64_w, i32_w]
    rfl
  refine pure_ (i := 6) (N := (some 117)) (v := ?_) (a' := ?_) #[true, true, false, false, false, true, true, false, false, false, false, false, false, false] rfl rfl (by kernel_rfl) (fun _ _ _ h => h) (Or.inl ⟨by rfl, ?_⟩) ?_ ?_
  rotate_left
  · intro w'
    go_simp
    with_reducible rfl
  rotate_left
  · simp only [Act.put, List.setIfInBounds_toArray, List.set_cons_zero, List.set_cons_succ, i64_w, i32_w]
    rfl
  refine pure_ (i := 10) (N := (some 121)) (v := ?_) (a' := ?_) #[true, true, false, false, false, true, true, false, false, false, true, false, false, false] rfl rfl (by kernel_rfl) (fun _ _ _ h => h) (Or.inl ⟨by rfl, ?_⟩) ?_ ?_
  rotate_left
  · intro w'
    go_simp
    with_reducible rfl
  rotate_left
  · simp only [Act.put, List.setIfInBounds_toArray, List.set_cons_zero, List.set_cons_succ, i64_w, i32_w]
    rfl
  refine take_ (i := 2) (N := (some 113)) (v := ?_) (a' := ?_) #[true, true, true, false, false, true, true, false, false, false, true, false, false, false] rfl rfl (by kernel_rfl) (fun _ _ _ h => h) (Or.inl ⟨by rfl, ?_⟩) hHeld ?_ ?_
  rotate_left
  · rintro w' ⟨s0, s1⟩
    go_simp
    with_reducible rfl
  rotate_left
  · simp only [Act.put, List.setIfInBounds_toArray, List.set_cons_zero, List.set_cons_succ, i64_w, i32_w]
    rfl
  refine pure_ (i := 3) (N := (some 114)) (v := ?_) (a' := ?_) #[true, true, true, true, false, true, true, false, false, false, true, false, false, false] rfl rfl (by kernel_rfl) (fun _ _ _ h => h) (Or.inl ⟨by rfl, ?_⟩) ?_ ?_
  rotate_left
  · intro w'
    go_simp
    with_reducible rfl
  rotate_left
  · simp only [Act.put, List.setIfInBounds_toArray, List.set_cons_zero, List.set_cons_succ, i64_w, i32_w]
    rfl
  refine take_ (i := 4) (N := (some 115)) (v := ?_) (a' := ?_) #[true, true, true, true, true, true, true, false, false, false, true, false, false, false] rfl rfl (by kernel_rfl) (fun _ _ _ h => h) (Or.inl ⟨by rfl, ?_⟩) hHeld ?_ ?_
  rotate_left
  · rintro w' ⟨s0, s1⟩
    go_simp
    with_reducible rfl
  rotate_left
  · simp only [Act.put, List.setIfInBounds_toArray, List.set_cons_zero, List.set_cons_succ, i64_w, i32_w]
    rfl
  refine take_ (i := 7) (N := (some 118)) (v := ?_) (a' := ?_) #[true, true, true, true, true, true, true, true, false, false, true, false, false, false] rfl rfl (by kernel_rfl) (fun _ _ _ h => h) (Or.inl ⟨by rfl, ?_⟩) hHeld ?_ ?_
  rotate_left
  · rintro w' ⟨s0, s1⟩
    go_simp
    with_reducible rfl
  rotate_left
  · simp only [Act.put, List.setIfInBounds_toArray, List.set_cons_zero, List.set_cons_succ, i64_w, i32_w]
    rfl
  refine pure_ (i := 8) (N := (some 119)) (v := ?_) (a' := ?_) #[true, true, true, true, true, true, true, true, true, false, true, false, false, false] rfl rfl (by kernel_rfl) (fun _ _ _ h => h) (Or.inl ⟨by rfl, ?_⟩) ?_ ?_
  rotate_left
  · intro w'
    go_simp
    with_reducible rfl
  rotate_left
  · simp only [Act.put, List.setIfInBounds_toArray, List.set_cons_zero, List.set_cons_succ, i64_w, i32_w]
    rfl
  refine take_ (i := 9) (N := (some 120)) (v := ?_) (a' := ?_) #[true, true, true, true, true, true, true, true, true, true, true, false, false, false] rfl rfl (by kernel_rfl) (fun _ _ _ h => h) (Or.inl ⟨by rfl, ?_⟩) hHeld ?_ ?_
  rotate_left
  · rintro w' ⟨s0, s1⟩
    go_simp
    with_reducible rfl
  rotate_left
  · simp only [Act.put, List.setIfInBounds_toArray, List.set_cons_zero, List.set_cons_succ, i64_w, i32_w]
    rfl
  refine one_ (i := 11) (N := (some 122)) #[true, true, true, true, true, true, true, true, true, true, true, true, false, false] rfl rfl (by kernel_rfl) (by decide) (fun K hK => ?_)
  refine goes_ Try.func121 (by kernel_rfl) rfl #[.pointer (some ⟨gm, 0, none⟩), .int .i64 (k0 : Int), .int .i64 0] (by rfl) rfl rfl (by (try simp only [List.map_toArray, List.map_cons, List.map_nil]); first | done | rfl) ?_
  refine (HE0.out _ HM.out HB.out).mono ?_
  rintro e w_ ⟨v_, rfl, hR_, hM_, hK_, hB_⟩
  refine ⟨_, rfl, ?_⟩
  obtain ⟨HAg, HAc, rfl, HAh⟩ := Row.form hR_
  have HA := Aside0.mk hR_
  have nK := Aside0.mk (HK.out.trans hK_)
  clear HM HB HK hR_
  have HM := Aside0.mk hM_
  have HB := Aside0.mk hB_
  have HK := nK
  clear nK hM_ hB_
  refine hK.out _ _ ⟨MK.cell hK_ (hHeld.1) HGN.out, MK.cell hK_ (hHeld.2) (by have := HAD.out; first | exact this | (show ad2.block ≠ gg; exact this))⟩ (fun hHeld => ?_)
  clear hK_
  clear hK K
  refine norm_ (a' := ?_) ?_ ?_
  rotate_left
  · show Act.put _ (some 122) _ = _
    simp only [Act.put, List.setIfInBounds_toArray, List.set_cons_zero, List.set_cons_succ, i64_w, i32_w]
    rfl
  refine one_ (i := 12) (N := (some 123)) #[true, true, true, true, true, true, true, true, true, true, true, true, true, false] rfl rfl (by kernel_rfl) (by decide) (fun K hK => ?_)
  refine goes_ Try.func172 (by kernel_rfl) rfl #[.pointer (some ⟨gm, 0, none⟩), .int .i64 (k0 : Int), .slice (some ⟨HAg, 0, none⟩) 1 HAc] (by rfl) rfl rfl (by (try simp only [List.map_toArray, List.map_cons, List.map_nil]); first | done | rfl) ?_
  refine (again_of k0 HE0.out _ (E k0) _ HM.out HB.out HA.out).mono ?_
  rintro e w_ ⟨v_, rfl, hR_, hM_, hK_, hB_⟩
  refine ⟨_, rfl, ?_⟩
  obtain ⟨HOg, HOc, rfl, HOh⟩ := Row.form hR_
  have HO := Aside0.mk hR_
  have nK := Aside0.mk (HK.out.trans hK_)
  clear HM HB HK hR_
  have HM := Aside0.mk hM_
  have HB := Aside0.mk hB_
  have HK := nK
  clear nK hM_ hB_
  refine hK.out _ _ ⟨MK.cell hK_ (hHeld.1) HGN.out, MK.cell hK_ (hHeld.2) (by have := HAD.out; first | exact this | (show ad2.block ≠ gg; exact this))⟩ (fun hHeld => ?_)
  clear hK_
  clear hK K
  refine norm_ (a' := ?_) ?_ ?_
  rotate_left
  · show Act.put _ (some 123) _ = _
    simp only [Act.put, List.setIfInBounds_toArray, List.set_cons_zero, List.set_cons_succ, i64_w, i32_w]
    rfl
  refine pure_ (i := 13) (N := (some 6)) (v := ?_) (a' := ?_) #[true, true, true, true, true, true, true, true, true, true, true, true, true, true] rfl rfl (by kernel_rfl) (fun _ _ _ h => h) (Or.inl ⟨by rfl, ?_⟩) ?_ ?_
  rotate_left
  · intro w'
    go_simp
    with_reducible rfl
  rotate_left
  · simp only [Act.put, List.setIfInBounds_toArray, List.set_cons_zero, List.set_cons_succ, i64_w, i32_w]
    rfl
  refine done_ (by kernel_rfl) ?_
  go_wp2_with fail
  go_ret
  exact ⟨_, rfl, by rw [HE.out]; exact HO.out, HM.out, HK.out, HB.out⟩
end Go.Proofs.Ytijmhelacmjggaa.P
/- The walk of the memo's find where a node is told many times. -/
namespace Go.Proofs.Ytijmhelacmjggaa.P
open Go.RowKit Go.Shelf Go.Proofs.YtijmhelacmjggaaW.PrintWords Go.Proofs.YtijmhelacmjggaaW.PrintLast Go.Proofs.YtijmhelacmjggaaW.PrintMore Go.Proofs.YtijmhelacmjggaaEv
set_option linter.unusedVariables false
set_option linter.unusedSimpArgs false
set_option maxHeartbeats 16000000 in
set_option maxRecDepth 100000 in
theorem find_times {w0 : World} {gm gg cn : Nat} {An : Option Addr} {nodes : List S156} {tx : ByteArray} {E : Nat → Bool} (ht : tx.size = 0) (hn : nodes.length ≤ 100000) (k : Nat) (hk1 : k < nodes.length) (hN : Kd.C k156 w0 An nodes.length nodes) (hop : (rd_T156 nodes (k : Int)).f0 = 8) (hlen : (rd_T156 nodes (k : Int)).f2.length = 1) (k0 : Nat) (e0 : rd (rd_T156 nodes (k : Int)).f2 0 = (k0 : Int)) (he0 : EOK w0 gm gg An cn nodes tx E k0) (hmi : 0 ≤ (rd_T156 nodes (k : Int)).f3 ∧ (rd_T156 nodes (k : Int)).f3 ≤ 1000) (hma : (rd_T156 nodes (k : Int)).f4 ≤ 1000) (hE : E k = (decide ((rd_T156 nodes (k : Int)).f3 = 0) || E k0)) : FOK w0 gm gg An cn nodes tx E k := by
  intro w hM hB
  obtain ⟨ad, A1, c1, A2, c2, rfl, hx0, hx1, hx2, hx3, hx4, _, _, hc2, hC2⟩ := at_T156 hN (k : Int) (by omega) (by omega)
  rw [Int.toNat_natCast] at hx0 hx1 hx2 hx3 hx4
  replace hx0 := (hB.cell (World.block_lt_of_cell? w0 _ hx0)).trans hx0
  replace hx1 := (hB.cell (World.block_lt_of_cell? w0 _ hx1)).trans hx1
  replace hx2 := (hB.cell (World.block_lt_of_cell? w0 _ hx2)).trans hx2
  replace hx3 := (hB.cell (World.block_lt_of_cell? w0 _ hx3)).trans hx3
  replace hx4 := (hB.cell (World.block_lt_of_cell? w0 _ hx4)).trans hx4
  obtain ⟨x, hxd⟩ : ∃ x, rd_T156 nodes (k : Int) = x := ⟨_, rfl⟩
  rw [hxd] at hx0 hx1 hx2 hx3 hx4 hc2 hC2 hop hlen e0 hmi hma hE
  rw [hop] at hx0
  clear hxd
  obtain ⟨ad2, rfl, hkc0⟩ := Kd.at_int hC2 0 (by omega) (by rw [hlen]; decide)
  rw [e0] at hkc0
  rw [show (0 : Int).toNat = 0 from rfl] at hkc0
  rw [hlen] at hx2
  clear hC2 hc2 hlen
  obtain ⟨cg, hG, hcg, hgm⟩ := Memo.head hM
  have hm0 : w.cell? ⟨gm, 0, none⟩ = some (.slice (some ad) nodes.length cn) := (blk_cell hG 0).trans rfl
  have hm1 : w.cell? ⟨gm, 1, none⟩ = some (.string tx) := (blk_cell hG 1).trans rfl
  have ha1 : (w.alloc (.cells #[.int .i64 8, .slice A1 x.f1.length c1, .slice (some ad2) 1 c2, .int .i64 x.f3, .int .i64 x.f4] 156)).cell? ⟨gm, 1, none⟩ = some (.string tx) := (blk_cell (blk_alloc hG _) 1).trans rfl
  have hkz : (k : Int) < (nodes.length : Int) := by omega
  have hk0 : (0 : Int) ≤ (k : Int) := by omega
  obtain ⟨gn, hgn⟩ : ∃ gn, w.heap.size = gn := ⟨_, rfl⟩
  have HGN : Aside0 (gn ≠ gg) := ⟨by have := Memo.gg_lt hM; omega⟩
  have BN : Aside0 ((w.alloc (.cells #[.int .i64 8, .slice A1 x.f1.length c1, .slice (some ad2) 1 c2, .int .i64 x.f3, .int .i64 x.f4] 156)).heap[gn]? = some (.cells #[.int .i64 8, .slice A1 x.f1.length c1, .slice (some ad2) 1 c2, .int .i64 x.f3, .int .i64 x.f4] 156 (0, 0))) := ⟨by rw [← hgn]; exact blk_new w _⟩
  have HK := Aside0.mk (MK.below (gg := gg) (below_alloc (Below.refl w.heap.size w) (.cells #[.int .i64 8, .slice A1 x.f1.length c1, .slice (some ad2) 1 c2, .int .i64 x.f3, .int .i64 x.f4] 156)))
  have HB := Aside0.mk (below_alloc hB (.cells #[.int .i64 8, .slice A1 x.f1.length c1, .slice (some ad2) 1 c2, .int .i64 x.f3, .int .i64 x.f4] 156))
  have HM := Aside0.mk (Memo.below hM (below_alloc (Below.refl w.heap.size w) (.cells #[.int .i64 8, .slice A1 x.f1.length c1, .slice (some ad2) 1 c2, .int .i64 x.f3, .int .i64 x.f4] 156)))
  have HE := Aside0.mk hE
  clear hG hM hB hE
  go_enter Try.func157, Try.ntmps157
  go_upto_region 5 with (first | ((with_reducible refine gate_dst (N := 26) rfl ?_); refine Kd.R_make Kd.bool _ 4 rfl (N := 26) rfl 124 _ _ rfl (1 : Int) rfl rfl Try.underlying124 (.bool false) 1 info4 rfl (by decide) (by omega) false (ok := fun _ => True) (okp := fun _ => True) rfl (fun _ hk => hk) trivial (by omega) (by decide) (Below.refl _ _) (Nat.le_refl _) ?_; intro H8v w_ ho hb hg_ hnew_; clear hg_; replace ho : Kd.R Kd.bool 4 w_ _ (fun _ => True) H8v [false] := ho; have H8 := Aside0.mk (Row.new ho HB.out (Memo.gg_lt HM.out)); have nBN := Aside0.mk (blk_below BN.out hb); clear BN; have BN := nBN; clear nBN; have nM := Aside0.mk (Memo.below HM.out hb); have nB := Aside0.mk (below_step HB.out hb); have nK := Aside0.mk (HK.out.trans (MK.below hb)); clear HM HB HK ho hb hnew_; have HM := nM; have HB := nB; have HK := nK; clear nM nB nK; obtain ⟨cg_, hG_, _, _⟩ := Memo.head HM.out; have ha2 : w_.cell? ⟨gm, 1, none⟩ = some (.string tx) := (blk_cell hG_ 1).trans rfl; clear hG_) | ((with_reducible refine gate_dst (N := 33) rfl ?_); refine Kd.R_make Kd.bool _ 4 rfl (N := 33) rfl 124 _ _ rfl (1 : Int) rfl rfl Try.underlying124 (.bool false) 1 info4 rfl (by decide) (by omega) false (ok := fun _ => True) (okp := fun _ => True) rfl (fun _ hk => hk) trivial (by omega) (by decide) (Below.refl _ _) (Nat.le_refl _) ?_; intro H9v w_ ho hb hg_ hnew_; clear hg_; replace ho : Kd.R Kd.bool 4 w_ _ (fun _ => True) H9v [false] := ho; have H9 := Aside0.mk (Row.new ho HB.out (Memo.gg_lt HM.out)); have HX1 : ∃ W1 : World, Memo w0 gm gg (some ad) cn nodes tx E W1 ∧ Row w0 W1 gg H8v false ∧ W1.heap[gn]? = some (.cells #[.int .i64 8, .slice A1 x.f1.length c1, .slice (some ad2) 1 c2, .int .i64 x.f3, .int .i64 x.f4] 156 (0, 0)) ∧ Below W1.heap.size W1 w_ ∧ (∃ b_, H9v.ownBlock = some b_ ∧ W1.heap.size ≤ b_) ∧ Below w0.heap.size w0 W1 ∧ MK gg w W1 := ⟨_, HM.out, H8.out, BN.out, hb, hnew_, HB.out, HK.out⟩; have nH8 := Aside0.mk (Row.keep H8.out (MK.below hb)); clear H8; have H8 := nH8; clear nH8; have nBN := Aside0.mk (blk_below BN.out hb); clear BN; have BN := nBN; clear nBN; have nM := Aside0.mk (Memo.below HM.out hb); have nB := Aside0.mk (below_step HB.out hb); have nK := Aside0.mk (HK.out.trans (MK.below hb)); clear HM HB HK ho hb hnew_; have HM := nM; have HB := nB; have HK := nK; clear nM nB nK; obtain ⟨H9g, H9c, rfl, H9h⟩ := Row.form H9.out; have hx9 := Row.cell H9.out; have hf9 := Row.frozen H9.out))
  obtain ⟨W1, hM1, h81, hBN1, hb1, ⟨g9', e9, hg9⟩, hB1, hK1⟩ := HX1
  obtain rfl : H9g = g9' := by simpa [Value.ownBlock] using e9
  have Hbs := below_set hb1 hg9 (j := 0) (v := .bool true)
  have nH9 := Aside0.mk ((Kd.R_put H9.out 0 true).1)
  clear H8 H9 HM HB HK BN
  have HM := Aside0.mk (Memo.below hM1 Hbs)
  have H8 := Aside0.mk (Row.keep h81 (MK.below (gg := gg) Hbs))
  have HK := Aside0.mk (hK1.trans (MK.below (gg := gg) Hbs))
  have HB := Aside0.mk (below_step hB1 Hbs)
  have BN := Aside0.mk (blk_below hBN1 Hbs)
  have H9 : Aside0 (Row w0 (w_.setCell ⟨H9g, 0, none⟩ (.bool true)) gg (.slice (some ⟨H9g, 0, none⟩) 1 H9c) true) := nH9
  clear nH9 Hbs hM1 h81 hBN1 hb1 hg9 e9 hB1 hK1 hx9 hf9
  generalize w_.setCell ⟨H9g, 0, none⟩ (.bool true) = w9 at *
  obtain ⟨H8g, H8c, rfl, hH8⟩ := Row.form H8.out
  obtain ⟨cg_, hG_, _, _⟩ := Memo.head HM.out
  have ht1 : w9.cell? ⟨gm, 1, none⟩ = some (.string tx) := (blk_cell hG_ 1).trans rfl
  clear hG_
  have hn0 : w9.cell? ⟨gn, 0, none⟩ = some (.int .i64 8) := (blk_cell BN.out 0).trans rfl
  have hn2 : w9.cell? ⟨gn, 2, none⟩ = some (.slice (some ad2) 1 c2) := (blk_cell BN.out 2).trans rfl
  have hn3 : w9.cell? ⟨gn, 3, none⟩ = some (.int .i64 x.f3) := (blk_cell BN.out 3).trans rfl
  have hn4 : w9.cell? ⟨gn, 4, none⟩ = some (.int .i64 x.f4) := (blk_cell BN.out 4).trans rfl
  have hq0 := (HB.out.cell (World.block_lt_of_cell? w0 _ hkc0)).trans hkc0
  have hz0 := hq0
  rw [show ad2.add 0 = ad2 by cases ad2; rfl] at hz0
  have HE0 := Aside0.mk he0
  have hkb := hkc0
  clear hkc0 he0
  have HAD : Aside0 (ad2.block ≠ gg) := ⟨by have h1 := World.block_lt_of_cell? w0 _ hkb; have h2 := Memo.gg_ge HM.out; rw [add_block] at h1; omega⟩
  have HZ := Aside0.mk hz0
  clear hkb hz0 hq0 hn2 hn3 hn4 ht1
  obtain ⟨cc, hcc⟩ : ∃ cc, (decide (x.f3 = 0) || E k0) = cc := ⟨_, rfl⟩
  have HCC := Aside0.mk hcc
  rw [hcc] at HE
  clear hcc
  go_wp2_with fail
  go_loopg [9, 10] (x.f3.toNat + 1) (fun gk_ v9 v10 wr => ∃ (kk : Nat), v10 = .int .i64 (kk : Int) ∧ (kk : Int) ≤ x.f3 ∧ x.f3.toNat - kk < gk_ ∧ Aside0 (Row w0 wr gg v9 (decide (kk = 0) || E k0)) ∧ Aside0 (Row w0 wr gg (.slice (some ⟨H8g, 0, none⟩) 1 H8c) false) ∧ Aside0 (Memo w0 gm gg (some ad) cn nodes tx E wr) ∧ Aside0 (Below w0.heap.size w0 wr) ∧ Aside0 (MK gg w wr) ∧ Aside0 (wr.heap[gn]? = some (.cells #[.int .i64 8, .slice A1 x.f1.length c1, .slice (some ad2) 1 c2, .int .i64 x.f3, .int .i64 x.f4] 156 (0, 0))) ∧ Aside0 (wr.cell? ad2 = some (.int .i64 (k0 : Int))))
  case atStart => exact ⟨0, rfl, by omega, by omega, ⟨by simpa using H9.out⟩, H8, HM, HB, HK, BN, HZ⟩
  case round =>
    clear H9 H8 HM HB HK BN HZ
    obtain ⟨kk, rfl, hkk, hgk, H9, H8, HM, HB, HK, BN, HZ⟩ := hrel
    obtain ⟨g9, c9, rfl, hc9⟩ := Row.form H9.out
    have hn2 : wr.cell? ⟨gn, 2, none⟩ = some (.slice (some ad2) 1 c2) := (blk_cell BN.out 2).trans rfl
    have hn3 : wr.cell? ⟨gn, 3, none⟩ = some (.int .i64 x.f3) := (blk_cell BN.out 3).trans rfl
    have hn4 : wr.cell? ⟨gn, 4, none⟩ = some (.int .i64 x.f4) := (blk_cell BN.out 4).trans rfl
    have hz0 := HZ.out
    by_cases hlt : (kk : Int) < x.f3
    · have hd : decide ((kk : Int) < x.f3) = true := decide_eq_true hlt
      go_wp2_with (go_at_call 170; refine (step_of k0 HE0.out _ (decide (kk = 0) || E k0) _ HM.out HB.out H9.out).mono ?_; rintro e w_ ⟨v_, rfl, hR_, hM_, hK_, hB_⟩; have nH8 := Aside0.mk (Row.keep H8.out hK_); clear H8; have H8 := nH8; clear nH8; have HS := Aside0.mk hR_; obtain ⟨HSg, HSc, rfl, HSh⟩ := Row.form hR_; have nBN := Aside0.mk ((hK_.2 gn (blk_lt BN.out) HGN.out).trans BN.out); have nZ := Aside0.mk (MK.cell hK_ HZ.out HAD.out); have nK := Aside0.mk (HK.out.trans hK_); clear HM HB HK hR_ hK_ BN HZ; have HM := Aside0.mk hM_; have HB := Aside0.mk hB_; have HK := nK; have BN := nBN; have HZ := nZ; clear nK nBN nZ hM_ hB_)
      go_roundg (x.f3.toNat - kk)
      case measure => omega
      case rel => exact ⟨kk + 1, by go_num, by omega, by omega, ⟨by have h := HS.out; rw [show (decide (kk + 1 = 0) || E k0) = ((decide (kk = 0) || E k0) && E k0) by cases E k0 <;> simp]; exact h⟩, H8, HM, HB, HK, BN, HZ⟩
    · have hd : decide ((kk : Int) < x.f3) = false := decide_eq_false hlt
      have he : Aside0 ((decide (kk = 0) || E k0) = cc) := ⟨by rw [← HCC.out]; congr 2; rw [eq_iff_iff]; omega⟩
      replace H9 := Aside0.mk (he.out ▸ H9.out)
      clear he
      by_cases hmx : x.f4 < 0
      · have hd2 : decide (x.f4 < 0) = true := decide_eq_true hmx
        go_wp2_with (go_at_call 172; refine (again_of k0 HE0.out _ cc _ HM.out HB.out H9.out).mono ?_; rintro e w_ ⟨v_, rfl, hR_, hM_, hK_, hB_⟩; have HA := Aside0.mk hR_; obtain ⟨HAg, HAc, rfl, HAh⟩ := Row.form hR_; have nBN := Aside0.mk ((hK_.2 gn (blk_lt BN.out) HGN.out).trans BN.out); have nZ := Aside0.mk (MK.cell hK_ HZ.out HAD.out); have nK := Aside0.mk (HK.out.trans hK_); clear HM HB HK hR_ hK_ BN HZ; have HM := Aside0.mk hM_; have HB := Aside0.mk hB_; have HK := nK; have BN := nBN; have HZ := nZ; clear nK nBN nZ hM_ hB_)
        go_ret
        exact ⟨_, rfl, by rw [HE.out]; exact HA.out, HM.out, HK.out, HB.out⟩
      · have hd2 : decide (x.f4 < 0) = false := decide_eq_false hmx
        go_wp2_with (go_at_call 171; obtain ⟨k_, hk_⟩ := or_one false cc; refine (spec_l4Or.calls k_ _ _ [false] _ _ [cc] _ _ (Row.C H8.out) (Kd.R_reads' H8.out).2.1 (Row.C H9.out) (Kd.R_reads' H9.out).2.1 hk_).mono ?_; rintro e w_ ⟨HOv, rfl, ho, hb⟩; have HO := Aside0.mk (Row.new ho HB.out (Memo.gg_lt HM.out)); have nH9 := Aside0.mk (Row.keep H9.out (MK.below hb)); clear H9; have H9 := nH9; clear nH9; have nBN := Aside0.mk (blk_below BN.out hb); have nZ := Aside0.mk (MK.cell (MK.below (gg := gg) hb) HZ.out HAD.out); clear BN HZ; have BN := nBN; have HZ := nZ; clear nBN nZ; have nM := Aside0.mk (Memo.below HM.out hb); have nB := Aside0.mk (below_step HB.out hb); have nK := Aside0.mk (HK.out.trans (MK.below hb)); clear HM HB HK ho hb hk_; have HM := nM; have HB := nB; have HK := nK; clear nM nB nK; obtain ⟨HOg, HOc, rfl, HOh⟩ := Row.form HO.out; have hn2 : w_.cell? ⟨gn, 2, none⟩ = some (.slice (some ad2) 1 c2) := (blk_cell BN.out 2).trans rfl; have hn3 : w_.cell? ⟨gn, 3, none⟩ = some (.int .i64 x.f3) := (blk_cell BN.out 3).trans rfl; have hn4 : w_.cell? ⟨gn, 4, none⟩ = some (.int .i64 x.f4) := (blk_cell BN.out 4).trans rfl; have hz0 := HZ.out)
        replace HO := Aside0.mk (show Row w0 w_ gg (.slice (some ⟨HOg, 0, none⟩) 1 HOc) cc by have h := HO.out; simpa using h)
        go_loopg [8, 9, 11] ((x.f4 - x.f3).toNat + 1) (fun gk_ v8 v9 v11 wr => ∃ (j : Int) (bo : Bool), v11 = .int .i64 j ∧ x.f3 ≤ j ∧ j ≤ 1000 ∧ (x.f4 - j).toNat < gk_ ∧ Aside0 (bo = true → cc = true) ∧ Aside0 (Row w0 wr gg v8 cc) ∧ Aside0 (Row w0 wr gg v9 bo) ∧ Aside0 (Memo w0 gm gg (some ad) cn nodes tx E wr) ∧ Aside0 (Below w0.heap.size w0 wr) ∧ Aside0 (MK gg w wr) ∧ Aside0 (wr.heap[gn]? = some (.cells #[.int .i64 8, .slice A1 x.f1.length c1, .slice (some ad2) 1 c2, .int .i64 x.f3, .int .i64 x.f4] 156 (0, 0))) ∧ Aside0 (wr.cell? ad2 = some (.int .i64 (k0 : Int))))
        case atStart => exact ⟨x.f3, cc, rfl, by omega, by omega, by omega, ⟨fun h => h⟩, HO, H9, HM, HB, HK, BN, HZ⟩
        case round =>
          clear HO H9 HM HB HK BN HZ hn2 hn3 hn4 hz0 H8
          obtain ⟨j, bo, rfl, hj0, hj1, hgk2, HI, H8, H9, HM, HB, HK, BN, HZ⟩ := hrel
          obtain ⟨g8, c8, rfl, hc8⟩ := Row.form H8.out
          obtain ⟨g7, c7, rfl, hc7⟩ := Row.form H9.out
          have hn2 : wr.cell? ⟨gn, 2, none⟩ = some (.slice (some ad2) 1 c2) := (blk_cell BN.out 2).trans rfl
          have hn3 : wr.cell? ⟨gn, 3, none⟩ = some (.int .i64 x.f3) := (blk_cell BN.out 3).trans rfl
          have hn4 : wr.cell? ⟨gn, 4, none⟩ = some (.int .i64 x.f4) := (blk_cell BN.out 4).trans rfl
          have hz0 := HZ.out
          by_cases hlt2 : j < x.f4
          · have hd3 : decide (j < x.f4) = true := decide_eq_true hlt2
            have hwr : IntKind.i64.wrap (j + 1) = j + 1 := by rw [i64_w]; exact wrap_id (by omega) (by omega)
            go_wp2_with (first | (go_at_call 170; refine (step_of k0 HE0.out _ bo _ HM.out HB.out H9.out).mono ?_; rintro e w_ ⟨v_, rfl, hR_, hM_, hK_, hB_⟩; have nH8 := Aside0.mk (Row.keep H8.out hK_); clear H8; have H8 := nH8; clear nH8; have HS := Aside0.mk hR_; obtain ⟨HSg, HSc, rfl, HSh⟩ := Row.form hR_; have nBN := Aside0.mk ((hK_.2 gn (blk_lt BN.out) HGN.out).trans BN.out); have nZ := Aside0.mk (MK.cell hK_ HZ.out HAD.out); have nK := Aside0.mk (HK.out.trans hK_); clear HM HB HK hR_ hK_ BN HZ; have HM := Aside0.mk hM_; have HB := Aside0.mk hB_; have HK := nK; have BN := nBN; have HZ := nZ; clear nK nBN nZ hM_ hB_) | (go_at_call 171; obtain ⟨k_, hk_⟩ := or_one cc (bo && E k0); refine (spec_l4Or.calls k_ _ _ [cc] _ _ [(bo && E k0)] _ _ (Row.C H8.out) (Kd.R_reads' H8.out).2.1 (Row.C HS.out) (Kd.R_reads' HS.out).2.1 hk_).mono ?_; rintro e w_ ⟨HO2v, rfl, ho, hb⟩; have HO2 := Aside0.mk (Row.new ho HB.out (Memo.gg_lt HM.out)); have nHS := Aside0.mk (Row.keep HS.out (MK.below hb)); clear HS; have HS := nHS; clear nHS; have nBN := Aside0.mk (blk_below BN.out hb); have nZ := Aside0.mk (MK.cell (MK.below (gg := gg) hb) HZ.out HAD.out); clear BN HZ; have BN := nBN; have HZ := nZ; clear nBN nZ; have nM := Aside0.mk (Memo.below HM.out hb); have nB := Aside0.mk (below_step HB.out hb); have nK := Aside0.mk (HK.out.trans (MK.below hb)); clear HM HB HK ho hb hk_; have HM := nM; have HB := nB; have HK := nK; clear nM nB nK; obtain ⟨HO2g, HO2c, rfl, HO2h⟩ := Row.form HO2.out))
            go_roundg ((x.f4 - j).toNat)
            case measure => omega
            case rel => exact ⟨j + 1, bo && E k0, by go_num, by omega, by omega, by omega, ⟨fun h => HI.out (by simp at h; exact h.1)⟩, ⟨by have h := HO2.out; rw [show (cc || (bo && E k0)) = cc by (have := HI.out; cases cc <;> cases bo <;> simp_all)] at h; exact h⟩, HS, HM, HB, HK, BN, HZ⟩
          · have hd3 : decide (j < x.f4) = false := decide_eq_false hlt2
            go_wp2_with fail
            go_ret
            exact ⟨_, rfl, by rw [HE.out]; exact H8.out, HM.out, HK.out, HB.out⟩
end Go.Proofs.Ytijmhelacmjggaa.P
-- Made by wip/gen/pp.py of this session over the kit's print of the loaded program: a function, and the contract of its walk. Lean checks it.
namespace Go.Proofs.Ytijmhelacmjggaa.P
open Go.RowKit Go.Proofs.YtijmhelacmjggaaW.PrintWords Go.Proofs.YtijmhelacmjggaaW.PrintLast Go.Proofs.YtijmhelacmjggaaW.PrintMore
attribute [local go_sem] max2_int min2_int max_two min_two max_three min_three max_four min_four   -- for this text's walks alone
set_option linter.unusedVariables false
set_option linter.unusedSimpArgs false

/-! ### impl_within: function 79 -/
def impl_within.f (a0 : Int) (a1 : Int) (a2 : Int) : Option (Bool) := if a0 ≥ a1 then (some (decide (a0 ≤ a2))) else (some false)
set_option maxHeartbeats 8000000 in
set_option maxRecDepth 100000 in
theorem impl_within.calls (a0 : Int) (a1 : Int) (a2 : Int) (r : Bool) (w : World) (h : impl_within.f a0 a1 a2 = some r) :
  Calls Try.prog 79 #[.int .i64 a0, .int .i64 a1, .int .i64 a2] w fun e w' => e = .returned (.bool r) ∧ Drawn0 w w' := by
 have H : (if a0 ≥ a1 then (some (decide (a0 ≤ a2))) else (some false)) = some r := h
 clear h
 by_cases c4 : a0 ≥ a1
 ·rw [if_pos c4] at H
  have c4b0 : decide (a1 ≤ a0) = true := decide_eq_true c4
  clear c4
  obtain rfl := Option.some.inj H
  go_enter Try.func79, Try.ntmps79
  go_wp2
  go_ret
  exact ⟨by first | rfl | (simp; done) | (simp [*]; done), by repeat (first | exact Drawn0.refl _ | apply Drawn0.step)⟩
 ·rw [if_neg c4] at H
  have c4b0 : decide (a1 ≤ a0) = false := decide_eq_false c4
  clear c4
  obtain rfl := Option.some.inj H
  go_enter Try.func79, Try.ntmps79
  go_wp2
  go_ret
  exact ⟨by first | rfl | (simp; done) | (simp [*]; done), by repeat (first | exact Drawn0.refl _ | apply Drawn0.step)⟩

end Go.Proofs.Ytijmhelacmjggaa.P
-- The kit's printed words LWithin, cut down by wip/gen/pack.py to what this proof reaches.
namespace Go.Proofs.Ytijmhelacmjggaa.P
open Go.RowKit Go.Proofs.YtijmhelacmjggaaW.PrintWords Go.Proofs.YtijmhelacmjggaaW.PrintLast Go.Proofs.YtijmhelacmjggaaEv
set_option linter.unusedVariables false
set_option linter.unusedSimpArgs false
theorem spec_l1In_eq (a b c : Int) : spec_l1In.f a b c = some (decide (b ≤ a ∧ a ≤ c)) := by
  unfold spec_l1In.f
  by_cases h : a ≥ b <;> simp [h]
theorem impl_within_eq (a b c : Int) : impl_within.f a b c = some (decide (b ≤ a ∧ a ≤ c)) := by
  unfold impl_within.f
  by_cases h : a ≥ b <;> simp [h]
end Go.Proofs.Ytijmhelacmjggaa.P
-- Made by wip/gen/pp.py of this session over the kit's print of the loaded program: a function, and the contract of its walk. Lean checks it.
namespace Go.Proofs.Ytijmhelacmjggaa.P
open Go.RowKit Go.Proofs.YtijmhelacmjggaaW.PrintWords Go.Proofs.YtijmhelacmjggaaW.PrintLast Go.Proofs.YtijmhelacmjggaaW.PrintMore
attribute [local go_sem] max2_int min2_int max_two min_two max_three min_three max_four min_four   -- for this text's walks alone
set_option linter.unusedVariables false
set_option linter.unusedSimpArgs false

/-! ### impl_kidsOf: function 152 -/
mutual
def impl_kidsOf.j0 : Nat → Int → Bool → Option (Int)
 | 0, _, _ => none
 | k + 1, x3, x4 => if x4 = true then (some 0) else (if x3 = 3 then (impl_kidsOf.j1 k x3 (x3 == 3)) else (impl_kidsOf.j1 k x3 (x3 == 4)))
def impl_kidsOf.j1 : Nat → Int → Bool → Option (Int)
 | 0, _, _ => none
 | k + 1, x3, x7 => if x7 = true then (some 2) else (if x3 = 5 then (some 1) else (if x3 = 6 then (some 1) else (if x3 = 7 then (some 1) else (if x3 = 8 then (some 1) else (some (-1))))))
end
def impl_kidsOf.f (k : Nat) (a0 : Int) : Option (Int) := if a0 = 1 then (impl_kidsOf.j0 k a0 (a0 == 1)) else (impl_kidsOf.j0 k a0 (a0 == 2))
theorem impl_kidsOf.mono_l : ∀ k, (∀ y0 y1, LeO (impl_kidsOf.j0 k y0 y1) (impl_kidsOf.j0 (k + 1) y0 y1)) ∧ (∀ y0 y1, LeO (impl_kidsOf.j1 k y0 y1) (impl_kidsOf.j1 (k + 1) y0 y1))
 | 0 => ⟨fun _ _ r h => by simp [impl_kidsOf.j0] at h, fun _ _ r h => by simp [impl_kidsOf.j1] at h⟩
 | k + 1 => by
  obtain ⟨ih0, ih1⟩ := impl_kidsOf.mono_l k
  refine ⟨?_, ?_⟩
  ·intro y0 y1
   unfold impl_kidsOf.j0
   repeat' first
   | (with_reducible exact ih0 _ _)
   | (with_reducible exact ih1 _ _)
   | (with_reducible exact LeO.refl _)
   | (with_reducible exact LeO.none _)
   | (with_reducible refine LeO.ite ?_ ?_)
   | (with_reducible refine LeO.bind ?_ (fun _ => ?_))
   | exact ih0 _ _
   | exact ih1 _ _
   | exact LeO.none _
   | refine LeO.ite ?_ ?_
   | refine LeO.bind ?_ (fun _ => ?_)
  ·intro y0 y1
   unfold impl_kidsOf.j1
   repeat' first
   | (with_reducible exact ih0 _ _)
   | (with_reducible exact ih1 _ _)
   | (with_reducible exact LeO.refl _)
   | (with_reducible exact LeO.none _)
   | (with_reducible refine LeO.ite ?_ ?_)
   | (with_reducible refine LeO.bind ?_ (fun _ => ?_))
   | exact ih0 _ _
   | exact ih1 _ _
   | exact LeO.none _
   | refine LeO.ite ?_ ?_
   | refine LeO.bind ?_ (fun _ => ?_)
theorem impl_kidsOf.mono : ∀ a0 k, LeO (impl_kidsOf.f k a0) (impl_kidsOf.f (k + 1) a0) := by
 intro a0 k
 obtain ⟨ih0, ih1⟩ := impl_kidsOf.mono_l k
 unfold impl_kidsOf.f
 repeat' first
   | (with_reducible exact ih0 _ _)
   | (with_reducible exact ih1 _ _)
   | (with_reducible exact LeO.refl _)
   | (with_reducible exact LeO.none _)
   | (with_reducible refine LeO.ite ?_ ?_)
   | (with_reducible refine LeO.bind ?_ (fun _ => ?_))
   | exact ih0 _ _
   | exact ih1 _ _
   | exact LeO.none _
   | refine LeO.ite ?_ ?_
   | refine LeO.bind ?_ (fun _ => ?_)
set_option maxHeartbeats 8000000 in
set_option maxRecDepth 100000 in
theorem impl_kidsOf.calls (k : Nat) (a0 : Int) (r : Int) (w : World) (h : impl_kidsOf.f k a0 = some r) :
  Calls Try.prog 152 #[.int .i64 a0] w fun e w' => e = .returned (.int .i64 r) ∧ Drawn0 w w' := by
 have H : (if a0 = 1 then (impl_kidsOf.j0 k a0 (a0 == 1)) else (impl_kidsOf.j0 k a0 (a0 == 2))) = some r := h
 clear h
 have HC2 := Aside0.mk H
 clear H
 go_enter Try.func152, Try.ntmps152
 go_upto_if 4 with (fail)
 go_cut [4] (fun v4 wc => ∃ (kq : Nat) (x4_1 : Bool), v4 = .bool x4_1 ∧ Aside0 (impl_kidsOf.j0 kq a0 x4_1 = some r) ∧ Aside0 (kq ≤ k) ∧ Drawn0 w wc)
 case first =>
  have H := HC2.out
  clear HC2
  by_cases c3 : a0 = 1
  ·rw [if_pos c3] at H
   have c3b0 : (a0 == 1) = true := beq_iff_eq.mpr c3
   have c3b1 : (a0 != 1) = false := bne_eq_false_iff_eq.mpr c3
   clear c3
   (first | rw [c3b0] | (simp only [i64_w, i32_w]; rw [c3b0]) | skip)
   have H' := Aside0.mk H
   clear H
   go_wp2
   go_meet
   case rel => exact ⟨_, ((a0 == 1)), rs_, H', ⟨by first | omega | exact Nat.le_refl _⟩, by repeat (first | exact Drawn0.refl _ | apply Drawn0.step)⟩
  ·rw [if_neg c3] at H
   have c3b0 : (a0 == 1) = false := beq_eq_false_iff_ne.mpr c3
   have c3b1 : (a0 != 1) = true := bne_iff_ne.mpr c3
   (first | rw [c3b0] | (simp only [i64_w, i32_w]; rw [c3b0]) | skip)
   have H' := Aside0.mk H
   clear H
   go_wp2
   go_meet
   case rel => exact ⟨_, ((a0 == 2)), rs_, H', ⟨by first | omega | exact Nat.le_refl _⟩, by repeat (first | exact Drawn0.refl _ | apply Drawn0.step)⟩
 case rest =>
  clear HC2
  try clear c1
  try clear p2
  try clear c3
  try clear c3b0
  try clear c3b1
  obtain ⟨kq, x4_1, rfl, HA, HJ1, ⟨mc1, rfl⟩⟩ := hcut
  cases kq with
  | zero => exact absurd HA.out (by simp [impl_kidsOf.j0])
  | succ kj1 =>
   have H := HA.out
   clear HA
   simp only [impl_kidsOf.j0] at H
   by_cases c4 : x4_1 = true
   ·subst c4
    have H1 : (some 0) = some r := by rw [if_pos rfl] at H; exact H
    clear H
    have H := H1
    clear H1
    obtain rfl := Option.some.inj H
    go_wp2
    go_ret
    exact ⟨by first | rfl | (simp; done) | (simp [*]; done), by repeat (first | exact Drawn0.refl _ | apply Drawn0.step)⟩
   ·replace c4 := Bool.eq_false_iff.mpr c4
    subst c4
    have H1 : (if a0 = 3 then (impl_kidsOf.j1 kj1 a0 (a0 == 3)) else (impl_kidsOf.j1 kj1 a0 (a0 == 4))) = some r := by rw [if_neg (show ¬ (false = true) by decide)] at H; exact H
    clear H
    have H := H1
    clear H1
    have HC5 := Aside0.mk H
    clear H
    go_upto_if 7 with (fail)
    go_cut [7] (fun v7 wc => ∃ (kq : Nat) (x7_4 : Bool), v7 = .bool x7_4 ∧ Aside0 (impl_kidsOf.j1 kq a0 x7_4 = some r) ∧ Aside0 (kq ≤ kj1) ∧ Drawn0 w wc)
    case first =>
     have H := HC5.out
     clear HC5
     by_cases c6 : a0 = 3
     ·rw [if_pos c6] at H
      have c6b0 : (a0 == 3) = true := beq_iff_eq.mpr c6
      have c6b1 : (a0 != 3) = false := bne_eq_false_iff_eq.mpr c6
      clear c6
      (first | rw [c6b0] | (simp only [i64_w, i32_w]; rw [c6b0]) | skip)
      have H' := Aside0.mk H
      clear H
      go_wp2
      go_meet
      case rel => exact ⟨_, ((a0 == 3)), rs_, H', ⟨by have := HJ1.out; first | omega | exact Nat.le_refl _⟩, by repeat (first | exact Drawn0.refl _ | apply Drawn0.step)⟩
     ·rw [if_neg c6] at H
      have c6b0 : (a0 == 3) = false := beq_eq_false_iff_ne.mpr c6
      have c6b1 : (a0 != 3) = true := bne_iff_ne.mpr c6
      (first | rw [c6b0] | (simp only [i64_w, i32_w]; rw [c6b0]) | skip)
      have H' := Aside0.mk H
      clear H
      go_wp2
      go_meet
      case rel => exact ⟨_, ((a0 == 4)), rs_, H', ⟨by have := HJ1.out; first | omega | exact Nat.le_refl _⟩, by repeat (first | exact Drawn0.refl _ | apply Drawn0.step)⟩
    case rest =>
     clear HC5
     try clear c1
     try clear p2
     try clear c3
     try clear c3b0
     try clear c3b1
     try clear c4
     try clear c6
     try clear c6b0
     try clear c6b1
     try clear p2
     obtain ⟨kq, x7_4, rfl, HA, HJ4, ⟨mc4, rfl⟩⟩ := hcut
     cases kq with
     | zero => exact absurd HA.out (by simp [impl_kidsOf.j1])
     | succ kj4 =>
      have H := HA.out
      clear HA
      simp only [impl_kidsOf.j1] at H
      by_cases c7 : x7_4 = true
      ·subst c7
       have H1 : (some 2) = some r := by rw [if_pos rfl] at H; exact H
       clear H
       have H := H1
       clear H1
       obtain rfl := Option.some.inj H
       go_wp2
       go_ret
       exact ⟨by first | rfl | (simp; done) | (simp [*]; done), by repeat (first | exact Drawn0.refl _ | apply Drawn0.step)⟩
      ·replace c7 := Bool.eq_false_iff.mpr c7
       subst c7
       have H1 : (if a0 = 5 then (some 1) else (if a0 = 6 then (some 1) else (if a0 = 7 then (some 1) else (if a0 = 8 then (some 1) else (some (-1)))))) = some r := by rw [if_neg (show ¬ (false = true) by decide)] at H; exact H
       clear H
       have H := H1
       clear H1
       by_cases c8 : a0 = 5
       ·rw [if_pos c8] at H
        have c8b0 : (a0 == 5) = true := beq_iff_eq.mpr c8
        have c8b1 : (a0 != 5) = false := bne_eq_false_iff_eq.mpr c8
        clear c8
        obtain rfl := Option.some.inj H
        go_wp2
        go_ret
        exact ⟨by first | rfl | (simp; done) | (simp [*]; done), by repeat (first | exact Drawn0.refl _ | apply Drawn0.step)⟩
       ·rw [if_neg c8] at H
        have c8b0 : (a0 == 5) = false := beq_eq_false_iff_ne.mpr c8
        have c8b1 : (a0 != 5) = true := bne_iff_ne.mpr c8
        by_cases c9 : a0 = 6
        ·rw [if_pos c9] at H
         have c9b0 : (a0 == 6) = true := beq_iff_eq.mpr c9
         have c9b1 : (a0 != 6) = false := bne_eq_false_iff_eq.mpr c9
         clear c9
         obtain rfl := Option.some.inj H
         go_wp2
         go_ret
         exact ⟨by first | rfl | (simp; done) | (simp [*]; done), by repeat (first | exact Drawn0.refl _ | apply Drawn0.step)⟩
        ·rw [if_neg c9] at H
         have c9b0 : (a0 == 6) = false := beq_eq_false_iff_ne.mpr c9
         have c9b1 : (a0 != 6) = true := bne_iff_ne.mpr c9
         by_cases c10 : a0 = 7
         ·rw [if_pos c10] at H
          have c10b0 : (a0 == 7) = true := beq_iff_eq.mpr c10
          have c10b1 : (a0 != 7) = false := bne_eq_false_iff_eq.mpr c10
          clear c10
          obtain rfl := Option.some.inj H
          go_wp2
          go_ret
          exact ⟨by first | rfl | (simp; done) | (simp [*]; done), by repeat (first | exact Drawn0.refl _ | apply Drawn0.step)⟩
         ·rw [if_neg c10] at H
          have c10b0 : (a0 == 7) = false := beq_eq_false_iff_ne.mpr c10
          have c10b1 : (a0 != 7) = true := bne_iff_ne.mpr c10
          by_cases c11 : a0 = 8
          ·rw [if_pos c11] at H
           have c11b0 : (a0 == 8) = true := beq_iff_eq.mpr c11
           have c11b1 : (a0 != 8) = false := bne_eq_false_iff_eq.mpr c11
           clear c11
           obtain rfl := Option.some.inj H
           go_wp2
           go_ret
           exact ⟨by first | rfl | (simp; done) | (simp [*]; done), by repeat (first | exact Drawn0.refl _ | apply Drawn0.step)⟩
          ·rw [if_neg c11] at H
           have c11b0 : (a0 == 8) = false := beq_eq_false_iff_ne.mpr c11
           have c11b1 : (a0 != 8) = true := bne_iff_ne.mpr c11
           obtain rfl := Option.some.inj H
           go_wp2
           go_ret
           exact ⟨by first | rfl | (simp; done) | (simp [*]; done), by repeat (first | exact Drawn0.refl _ | apply Drawn0.step)⟩

end Go.Proofs.Ytijmhelacmjggaa.P
-- Made by wip/gen/pp.py of this session over the kit's print of the loaded program: a function, and the contract of its walk. Lean checks it.
namespace Go.Proofs.Ytijmhelacmjggaa.P
open Go.RowKit Go.Proofs.YtijmhelacmjggaaW.PrintWords Go.Proofs.YtijmhelacmjggaaW.PrintLast Go.Proofs.YtijmhelacmjggaaW.PrintMore
attribute [local go_sem] max2_int min2_int max_two min_two max_three min_three max_four min_four   -- for this text's walks alone
set_option linter.unusedVariables false
set_option linter.unusedSimpArgs false

/-! ### impl_timesOk: function 156 -/
def impl_timesOk.f (a0 : Int) (a1 : Int) : Option (Bool) := (impl_within.f a0 0 30).bind fun t101 => (if t101 = true then (if a1 = (-1) then (some true) else ((impl_within.f a1 a0 30).bind fun t102 => (if t102 = true then (some (a1 != 0)) else (some false)))) else (some false))
set_option maxHeartbeats 8000000 in
set_option maxRecDepth 100000 in
theorem impl_timesOk.calls (a0 : Int) (a1 : Int) (r : Bool) (w : World) (h : impl_timesOk.f a0 a1 = some r) :
  Calls Try.prog 156 #[.int .i64 a0, .int .i64 a1] w fun e w' => e = .returned (.bool r) ∧ Drawn0 w w' := by
 have H : ((impl_within.f a0 0 30).bind fun t101 => (if t101 = true then (if a1 = (-1) then (some true) else ((impl_within.f a1 a0 30).bind fun t102 => (if t102 = true then (some (a1 != 0)) else (some false)))) else (some false))) = some r := h
 clear h
 replace H := Option.bind_eq_some_iff.mp H
 obtain ⟨t101, A30, H⟩ := H
 replace H : (if t101 = true then (if a1 = (-1) then (some true) else ((impl_within.f a1 a0 30).bind fun t102 => (if t102 = true then (some (a1 != 0)) else (some false)))) else (some false)) = some r := H
 have A3 := Aside0.mk A30
 clear A30
 by_cases c4 : t101 = true
 ·subst c4
  have H1 : (if a1 = (-1) then (some true) else ((impl_within.f a1 a0 30).bind fun t102 => (if t102 = true then (some (a1 != 0)) else (some false)))) = some r := by rw [if_pos rfl] at H; exact H
  clear H
  have H := H1
  clear H1
  by_cases c5 : a1 = (-1)
  ·rw [if_pos c5] at H
   have c5b0 : (a1 == (-1)) = true := beq_iff_eq.mpr c5
   have c5b1 : (a1 != (-1)) = false := bne_eq_false_iff_eq.mpr c5
   clear c5
   obtain rfl := Option.some.inj H
   go_enter Try.func156, Try.ntmps156
   go_wp2_with (first | ((with_reducible refine gate_callee (f := 79) rfl ?_); refine gl_ (some 6) rfl rfl Try.func79 #[.int .i64 a0, .int .i64 0, .int .i64 30] ?_; (with_reducible refine (impl_within.calls a0 0 30 true _ A3.out).mono ?_); rintro e w' ⟨rfl, ⟨nd, rfl⟩⟩; refine ⟨_, rfl, ?_⟩))
   go_ret
   exact ⟨by first | rfl | (simp; done) | (simp [*]; done), by repeat (first | exact Drawn0.refl _ | apply Drawn0.step)⟩
  ·rw [if_neg c5] at H
   have c5b0 : (a1 == (-1)) = false := beq_eq_false_iff_ne.mpr c5
   have c5b1 : (a1 != (-1)) = true := bne_iff_ne.mpr c5
   replace H := Option.bind_eq_some_iff.mp H
   obtain ⟨t102, A60, H⟩ := H
   replace H : (if t102 = true then (some (a1 != 0)) else (some false)) = some r := H
   have A6 := Aside0.mk A60
   clear A60
   by_cases c7 : t102 = true
   ·subst c7
    have H1 : (some (a1 != 0)) = some r := by rw [if_pos rfl] at H; exact H
    clear H
    have H := H1
    clear H1
    obtain rfl := Option.some.inj H
    go_enter Try.func156, Try.ntmps156
    go_wp2_with (first | ((with_reducible refine gate_callee (f := 79) rfl ?_); refine gl_ (some 6) rfl rfl Try.func79 #[.int .i64 a0, .int .i64 0, .int .i64 30] ?_; (with_reducible refine (impl_within.calls a0 0 30 true _ A3.out).mono ?_); rintro e w' ⟨rfl, ⟨nd, rfl⟩⟩; refine ⟨_, rfl, ?_⟩) | (go_at_call 79; (with_reducible refine (impl_within.calls a1 a0 30 true _ A6.out).mono ?_); rintro e w' ⟨rfl, ⟨nd, rfl⟩⟩))
    go_ret
    exact ⟨by first | rfl | (simp; done) | (simp [*]; done), by repeat (first | exact Drawn0.refl _ | apply Drawn0.step)⟩
   ·replace c7 := Bool.eq_false_iff.mpr c7
    subst c7
    have H1 : (some false) = some r := by rw [if_neg (show ¬ (false = true) by decide)] at H; exact H
    clear H
    have H := H1
    clear H1
    obtain rfl := Option.some.inj H
    go_enter Try.func156, Try.ntmps156
    go_wp2_with (first | ((with_reducible refine gate_callee (f := 79) rfl ?_); refine gl_ (some 6) rfl rfl Try.func79 #[.int .i64 a0, .int .i64 0, .int .i64 30] ?_; (with_reducible refine (impl_within.calls a0 0 30 true _ A3.out).mono ?_); rintro e w' ⟨rfl, ⟨nd, rfl⟩⟩; refine ⟨_, rfl, ?_⟩) | (go_at_call 79; (with_reducible refine (impl_within.calls a1 a0 30 false _ A6.out).mono ?_); rintro e w' ⟨rfl, ⟨nd, rfl⟩⟩))
    go_ret
    exact ⟨by first | rfl | (simp; done) | (simp [*]; done), by repeat (first | exact Drawn0.refl _ | apply Drawn0.step)⟩
 ·replace c4 := Bool.eq_false_iff.mpr c4
  subst c4
  have H1 : (some false) = some r := by rw [if_neg (show ¬ (false = true) by decide)] at H; exact H
  clear H
  have H := H1
  clear H1
  obtain rfl := Option.some.inj H
  go_enter Try.func156, Try.ntmps156
  go_wp2_with (first | ((with_reducible refine gate_callee (f := 79) rfl ?_); refine gl_ (some 6) rfl rfl Try.func79 #[.int .i64 a0, .int .i64 0, .int .i64 30] ?_; (with_reducible refine (impl_within.calls a0 0 30 false _ A3.out).mono ?_); rintro e w' ⟨rfl, ⟨nd, rfl⟩⟩; refine ⟨_, rfl, ?_⟩))
  go_ret
  exact ⟨by first | rfl | (simp; done) | (simp [*]; done), by repeat (first | exact Drawn0.refl _ | apply Drawn0.step)⟩

end Go.Proofs.Ytijmhelacmjggaa.P
-- Made by wip/gen/pp.py of this session over the kit's print of the loaded program: a function, and the contract of its walk. Lean checks it.
namespace Go.Proofs.Ytijmhelacmjggaa.P
open Go.RowKit Go.Proofs.YtijmhelacmjggaaW.PrintWords Go.Proofs.YtijmhelacmjggaaW.PrintLast Go.Proofs.YtijmhelacmjggaaW.PrintMore
attribute [local go_sem] max2_int min2_int max_two min_two max_three min_three max_four min_four   -- for this text's walks alone
set_option linter.unusedVariables false
set_option linter.unusedSimpArgs false

/-! ### impl_ClassOk: function 155 -/
def impl_ClassOk.l0 : Nat → List (S103) → List (S103) → Int → Int → Option (Bool)
 | 0, _, _, _, _ => none
 | k + 1, x0, x5, x6, x7 => if x7 < x6 then (if 0 ≤ x7 then (if x7 < (x5.length : Int) then (if ((rd_T103 x5 x7).f0) < 0 then (some false) else (if ((rd_T103 x5 x7).f0) > ((rd_T103 x5 x7).f1) then (some false) else (if ((rd_T103 x5 x7).f1) > 255 then (some false) else (if x7 > 0 then (if 0 ≤ (wrap64 (x7 - 1)) then (if (wrap64 (x7 - 1)) < (x0.length : Int) then (if ((rd_T103 x5 x7).f0) < (wrap64 (((rd_T103 x0 (wrap64 (x7 - 1))).f1) + 2)) then (some false) else (impl_ClassOk.l0 k x0 x5 x6 (wrap64 (x7 + 1)))) else (none)) else (none)) else (impl_ClassOk.l0 k x0 x5 x6 (wrap64 (x7 + 1))))))) else (none)) else (none)) else (some true)
def impl_ClassOk.f (k : Nat) (l0 : List (S103)) : Option (Bool) := impl_ClassOk.l0 k l0 l0 (l0.length : Int) 0
theorem impl_ClassOk.mono_l : ∀ k, (∀ y0 y1 y2 y3, LeO (impl_ClassOk.l0 k y0 y1 y2 y3) (impl_ClassOk.l0 (k + 1) y0 y1 y2 y3))
 | 0 => fun _ _ _ _ r h => by simp [impl_ClassOk.l0] at h
 | k + 1 => by
  have ih0 := impl_ClassOk.mono_l k
  ·intro y0 y1 y2 y3
   unfold impl_ClassOk.l0
   repeat' first
   | (with_reducible exact ih0 _ _ _ _)
   | (with_reducible exact LeO.refl _)
   | (with_reducible exact LeO.none _)
   | (with_reducible refine LeO.ite ?_ ?_)
   | (with_reducible refine LeO.bind ?_ (fun _ => ?_))
   | exact ih0 _ _ _ _
   | exact LeO.none _
   | refine LeO.ite ?_ ?_
   | refine LeO.bind ?_ (fun _ => ?_)
theorem impl_ClassOk.mono : ∀ a0 k, LeO (impl_ClassOk.f k a0) (impl_ClassOk.f (k + 1) a0) := by
 intro a0 k
 have ih0 := impl_ClassOk.mono_l k
 unfold impl_ClassOk.f
 repeat' first
   | (with_reducible exact ih0 _ _ _ _)
   | (with_reducible exact LeO.refl _)
   | (with_reducible exact LeO.none _)
   | (with_reducible refine LeO.ite ?_ ?_)
   | (with_reducible refine LeO.bind ?_ (fun _ => ?_))
   | exact ih0 _ _ _ _
   | exact LeO.none _
   | refine LeO.ite ?_ ?_
   | refine LeO.bind ?_ (fun _ => ?_)
set_option maxHeartbeats 8000000 in
set_option maxRecDepth 100000 in
theorem impl_ClassOk.calls (k : Nat) (A0 : Option Addr) (c0 : Nat) (l0 : List (S103)) (r : Bool) (w : World) (hr0 : Kd.C k103 w A0 l0.length l0) (hc0 : l0.length ≤ c0) (h : impl_ClassOk.f k l0 = some r) :
  Calls Try.prog 155 #[.slice A0 l0.length c0] w fun e w' => e = .returned (.bool r) ∧ Below w.heap.size w w' := by
 have hu103 := Try.underlying103
 have HR0 := Aside0.mk hr0
 have HC0 := Aside0.mk hc0
 clear hr0 hc0
 have HB := Aside0.mk (Below.refl w.heap.size w)
 have H : (impl_ClassOk.l0 k l0 l0 (l0.length : Int) 0) = some r := h
 clear h
 have H' := Aside0.mk H
 clear H
 go_enter Try.func155, Try.ntmps155
 go_wp2
 repeat (go_quiet (fail); try go_wp2)
 go_loopg [7] k (fun kq v7 w' => ∃ (x7_1 : Int), v7 = .int .i64 x7_1 ∧ Aside0 (impl_ClassOk.l0 kq l0 l0 (l0.length : Int) x7_1 = some r) ∧ Aside0 (kq ≤ k) ∧ Aside0 (Below w.heap.size w w'))
 case atStart => exact ⟨(0), rs_, H', ⟨Nat.le_refl _⟩, ⟨be_ HB.out⟩⟩
 case round =>
  clear H'
  try clear c1
  obtain ⟨x7_1, rfl, HA, HK1, HB⟩ := hrel
  cases gk with
  | zero => exact absurd HA.out (by simp [impl_ClassOk.l0])
  | succ k1 =>
   have H := HA.out
   clear HA
   simp only [impl_ClassOk.l0] at H
   by_cases c2 : x7_1 < (l0.length : Int)
   ·rw [if_pos c2] at H
    have c2b0 : decide (x7_1 < (l0.length : Int)) = true := decide_eq_true c2
    clear c2
    by_cases c3 : 0 ≤ x7_1
    ·rw [if_pos c3] at H
     have c3b0 : decide (0 ≤ x7_1) = true := decide_eq_true c3
     clear c3
     by_cases c4 : x7_1 < (l0.length : Int)
     ·rw [if_pos c4] at H
      have c4b0 : decide (x7_1 < (l0.length : Int)) = true := decide_eq_true c4
      clear c4
      by_cases c5 : ((rd_T103 l0 x7_1).f0) < 0
      ·rw [if_pos c5] at H
       have c5b0 : decide (((rd_T103 l0 x7_1).f0) < 0) = true := decide_eq_true c5
       clear c5
       obtain rfl := Option.some.inj H
       have p101 : 0 ≤ (x7_1 : Int) := of_decide_eq_true as_
       have q101 : x7_1 < (l0.length : Int) := of_decide_eq_true as_
       obtain ⟨ad101, e101, hx101_0, hx101_1⟩ := at_T103 HR0.out x7_1 p101 q101
       cases e101
       replace hx101_0 := mv_ HB.out hx101_0
       replace hx101_1 := mv_ HB.out hx101_1
       replace p101 := eq_true p101
       replace q101 := eq_true q101
       go_wp2_with (((with_reducible refine gate_dst (N := 4) rfl ?_); refine box_event ?hg (N := 4) ?hd (cs := #[.int .i64 0, .int .i64 0]) (t := 103) ?hr ?_; (case hd => rfl); (case hg => rfl); (case hr => first | (go_simp; done) | (go_simp; rfl)); intro gb102 hg w6 hbox hb; have n0_ := Aside0.mk (below_step (be_ HB.out) hb); have n1_ := Aside0.mk (hbox); have n2_ := Aside0.mk ((by rw [hg]; exact (below_size (be_ HB.out)) : w.heap.size ≤ gb102)); have n3_ := Aside0.mk ((by rw [hg]; exact (below_size (be_ HB.out)) : w.heap.size ≤ gb102)); clear HB; have HB := n0_; have BK102 := n1_; have GW102 := n2_; have GE102 := n3_; clear n0_ n1_ n2_ n3_; clear hb hbox hg; have hcz7_0 : w6.cell? ⟨gb102, 0, none⟩ = some (.int .i64 0) := (blk_cell BK102.out 0).trans rfl; have hcz7_1 : w6.cell? ⟨gb102, 1, none⟩ = some (.int .i64 0) := (blk_cell BK102.out 1).trans rfl; have hfz7_0 := blk_frozen BK102.out 0; have hfz7_1 := blk_frozen BK102.out 1))
       repeat (go_quiet (fail); try go_wp2_with (fail))
       go_ret
       exact ⟨rt_, be1_ HB.out GE102.out⟩
      ·rw [if_neg c5] at H
       have c5b0 : decide (((rd_T103 l0 x7_1).f0) < 0) = false := decide_eq_false c5
       clear c5
       by_cases c8 : ((rd_T103 l0 x7_1).f0) > ((rd_T103 l0 x7_1).f1)
       ·rw [if_pos c8] at H
        have c8b0 : decide (((rd_T103 l0 x7_1).f1) < ((rd_T103 l0 x7_1).f0)) = true := decide_eq_true c8
        clear c8
        obtain rfl := Option.some.inj H
        have p101 : 0 ≤ (x7_1 : Int) := of_decide_eq_true as_
        have q101 : x7_1 < (l0.length : Int) := of_decide_eq_true as_
        obtain ⟨ad101, e101, hx101_0, hx101_1⟩ := at_T103 HR0.out x7_1 p101 q101
        cases e101
        replace hx101_0 := mv_ HB.out hx101_0
        replace hx101_1 := mv_ HB.out hx101_1
        replace p101 := eq_true p101
        replace q101 := eq_true q101
        go_wp2_with (((with_reducible refine gate_dst (N := 4) rfl ?_); refine box_event ?hg (N := 4) ?hd (cs := #[.int .i64 0, .int .i64 0]) (t := 103) ?hr ?_; (case hd => rfl); (case hg => rfl); (case hr => first | (go_simp; done) | (go_simp; rfl)); intro gb102 hg w9 hbox hb; have n0_ := Aside0.mk (below_step (be_ HB.out) hb); have n1_ := Aside0.mk (hbox); have n2_ := Aside0.mk ((by rw [hg]; exact (below_size (be_ HB.out)) : w.heap.size ≤ gb102)); have n3_ := Aside0.mk ((by rw [hg]; exact (below_size (be_ HB.out)) : w.heap.size ≤ gb102)); clear HB; have HB := n0_; have BK102 := n1_; have GW102 := n2_; have GE102 := n3_; clear n0_ n1_ n2_ n3_; clear hb hbox hg; have hcz10_0 : w9.cell? ⟨gb102, 0, none⟩ = some (.int .i64 0) := (blk_cell BK102.out 0).trans rfl; have hcz10_1 : w9.cell? ⟨gb102, 1, none⟩ = some (.int .i64 0) := (blk_cell BK102.out 1).trans rfl; have hfz10_0 := blk_frozen BK102.out 0; have hfz10_1 := blk_frozen BK102.out 1))
        repeat (go_quiet (fail); try go_wp2_with (fail))
        go_ret
        exact ⟨rt_, be1_ HB.out GE102.out⟩
       ·rw [if_neg c8] at H
        have c8b0 : decide (((rd_T103 l0 x7_1).f1) < ((rd_T103 l0 x7_1).f0)) = false := decide_eq_false c8
        clear c8
        by_cases c11 : ((rd_T103 l0 x7_1).f1) > 255
        ·rw [if_pos c11] at H
         have c11b0 : decide (255 < ((rd_T103 l0 x7_1).f1)) = true := decide_eq_true c11
         clear c11
         obtain rfl := Option.some.inj H
         have p101 : 0 ≤ (x7_1 : Int) := of_decide_eq_true as_
         have q101 : x7_1 < (l0.length : Int) := of_decide_eq_true as_
         obtain ⟨ad101, e101, hx101_0, hx101_1⟩ := at_T103 HR0.out x7_1 p101 q101
         cases e101
         replace hx101_0 := mv_ HB.out hx101_0
         replace hx101_1 := mv_ HB.out hx101_1
         replace p101 := eq_true p101
         replace q101 := eq_true q101
         go_wp2_with (((with_reducible refine gate_dst (N := 4) rfl ?_); refine box_event ?hg (N := 4) ?hd (cs := #[.int .i64 0, .int .i64 0]) (t := 103) ?hr ?_; (case hd => rfl); (case hg => rfl); (case hr => first | (go_simp; done) | (go_simp; rfl)); intro gb102 hg w12 hbox hb; have n0_ := Aside0.mk (below_step (be_ HB.out) hb); have n1_ := Aside0.mk (hbox); have n2_ := Aside0.mk ((by rw [hg]; exact (below_size (be_ HB.out)) : w.heap.size ≤ gb102)); have n3_ := Aside0.mk ((by rw [hg]; exact (below_size (be_ HB.out)) : w.heap.size ≤ gb102)); clear HB; have HB := n0_; have BK102 := n1_; have GW102 := n2_; have GE102 := n3_; clear n0_ n1_ n2_ n3_; clear hb hbox hg; have hcz13_0 : w12.cell? ⟨gb102, 0, none⟩ = some (.int .i64 0) := (blk_cell BK102.out 0).trans rfl; have hcz13_1 : w12.cell? ⟨gb102, 1, none⟩ = some (.int .i64 0) := (blk_cell BK102.out 1).trans rfl; have hfz13_0 := blk_frozen BK102.out 0; have hfz13_1 := blk_frozen BK102.out 1))
         repeat (go_quiet (fail); try go_wp2_with (fail))
         go_ret
         exact ⟨rt_, be1_ HB.out GE102.out⟩
        ·rw [if_neg c11] at H
         have c11b0 : decide (255 < ((rd_T103 l0 x7_1).f1)) = false := decide_eq_false c11
         clear c11
         by_cases c14 : x7_1 > 0
         ·rw [if_pos c14] at H
          have c14b0 : decide (0 < x7_1) = true := decide_eq_true c14
          clear c14
          obtain ⟨ji15, hji15⟩ : ∃ j_ : Int, (wrap64 (x7_1 - 1)) = j_ := ⟨_, rfl⟩
          replace H : (if 0 ≤ (ji15) then (if (ji15) < (l0.length : Int) then (if ((rd_T103 l0 x7_1).f0) < (wrap64 (((rd_T103 l0 (ji15)).f1) + 2)) then (some false) else (impl_ClassOk.l0 k1 l0 l0 (l0.length : Int) (wrap64 (x7_1 + 1)))) else (none)) else (none)) = some r := by first | (rw [hji15] at H; exact H) | (simp only [hji15] at H ⊢; exact H)
          have hji15w : (IntKind.i64.wrap (x7_1 - 1)) = ji15 := (i64_w _).trans hji15
          by_cases c16 : 0 ≤ (ji15)
          ·rw [if_pos c16] at H
           have c16b0 : decide (0 ≤ (ji15)) = true := decide_eq_true c16
           clear c16
           by_cases c17 : (ji15) < (l0.length : Int)
           ·rw [if_pos c17] at H
            have c17b0 : decide ((ji15) < (l0.length : Int)) = true := decide_eq_true c17
            clear c17
            by_cases c18 : ((rd_T103 l0 x7_1).f0) < (wrap64 (((rd_T103 l0 (ji15)).f1) + 2))
            ·rw [if_pos c18] at H
             have c18b0 : decide (((rd_T103 l0 x7_1).f0) < (wrap64 (((rd_T103 l0 (ji15)).f1) + 2))) = true := decide_eq_true c18
             clear c18
             obtain rfl := Option.some.inj H
             have p101 : 0 ≤ (x7_1 : Int) := of_decide_eq_true as_
             have q101 : x7_1 < (l0.length : Int) := of_decide_eq_true as_
             obtain ⟨ad101, e101, hx101_0, hx101_1⟩ := at_T103 HR0.out x7_1 p101 q101
             cases e101
             replace hx101_0 := mv_ HB.out hx101_0
             replace hx101_1 := mv_ HB.out hx101_1
             replace p101 := eq_true p101
             replace q101 := eq_true q101
             go_wp2_with (((with_reducible refine gate_dst (N := 4) rfl ?_); refine box_event ?hg (N := 4) ?hd (cs := #[.int .i64 0, .int .i64 0]) (t := 103) ?hr ?_; (case hd => rfl); (case hg => rfl); (case hr => first | (go_simp; done) | (go_simp; rfl)); intro gb102 hg w19 hbox hb; have n0_ := Aside0.mk (below_step (be_ HB.out) hb); have n1_ := Aside0.mk (hbox); have n2_ := Aside0.mk ((by rw [hg]; exact (below_size (be_ HB.out)) : w.heap.size ≤ gb102)); have n3_ := Aside0.mk ((by rw [hg]; exact (below_size (be_ HB.out)) : w.heap.size ≤ gb102)); clear HB; have HB := n0_; have BK102 := n1_; have GW102 := n2_; have GE102 := n3_; clear n0_ n1_ n2_ n3_; clear hb hbox hg; have hcz20_0 : w19.cell? ⟨gb102, 0, none⟩ = some (.int .i64 0) := (blk_cell BK102.out 0).trans rfl; have hcz20_1 : w19.cell? ⟨gb102, 1, none⟩ = some (.int .i64 0) := (blk_cell BK102.out 1).trans rfl; have hfz20_0 := blk_frozen BK102.out 0; have hfz20_1 := blk_frozen BK102.out 1; have p103 : 0 ≤ ((ji15) : Int) := of_decide_eq_true as_; have q103 : (ji15) < (l0.length : Int) := of_decide_eq_true as_; obtain ⟨ad103, e103, hx103_0, hx103_1⟩ := at_T103 HR0.out (ji15) p103 q103; obtain rfl : ad101 = ad103 := (by injection e103); have hn103_0 : ad101.block ≠ gb102 := Nat.ne_of_lt (Nat.lt_of_lt_of_le (by have := World.block_lt_of_cell? _ _ hx103_0; first | rwa [add_block] at this | exact this) GW102.out); have hn103_1 : ad101.block ≠ gb102 := Nat.ne_of_lt (Nat.lt_of_lt_of_le (by have := World.block_lt_of_cell? _ _ hx103_0; first | rwa [add_block] at this | exact this) GW102.out); replace hx103_0 := mv_ HB.out hx103_0; replace hx103_1 := mv_ HB.out hx103_1; replace hx103_0 := (cell_far (p := ⟨gb102, 0, none⟩) (by first | (rw [add_block]; exact hn103_0) | (show (Addr.add _ _).block ≠ _; rw [add_block]; exact hn103_0) | exact hn103_0) (.int .i64 ((rd_T103 l0 x7_1).f0))).trans hx103_0; replace hx103_1 := (cell_far (p := ⟨gb102, 0, none⟩) (by first | (rw [add_block]; exact hn103_0) | (show (Addr.add _ _).block ≠ _; rw [add_block]; exact hn103_0) | exact hn103_0) (.int .i64 ((rd_T103 l0 x7_1).f0))).trans hx103_1; replace hx103_0 := (cell_far (p := ⟨gb102, 1, none⟩) (by first | (rw [add_block]; exact hn103_1) | (show (Addr.add _ _).block ≠ _; rw [add_block]; exact hn103_1) | exact hn103_1) (.int .i64 ((rd_T103 l0 x7_1).f1))).trans hx103_0; replace hx103_1 := (cell_far (p := ⟨gb102, 1, none⟩) (by first | (rw [add_block]; exact hn103_1) | (show (Addr.add _ _).block ≠ _; rw [add_block]; exact hn103_1) | exact hn103_1) (.int .i64 ((rd_T103 l0 x7_1).f1))).trans hx103_1; (try have hy103_0 := fun (n_ : Nat) => (show ((((w19.drewN n_).setCell ⟨gb102, 0, none⟩ (.int .i64 ((rd_T103 l0 x7_1).f0))).setCell ⟨gb102, 1, none⟩ (.int .i64 ((rd_T103 l0 x7_1).f1)))).cell? _ = some _ from hx103_0)); (try have hy103_1 := fun (n_ : Nat) => (show ((((w19.drewN n_).setCell ⟨gb102, 0, none⟩ (.int .i64 ((rd_T103 l0 x7_1).f0))).setCell ⟨gb102, 1, none⟩ (.int .i64 ((rd_T103 l0 x7_1).f1)))).cell? _ = some _ from hx103_1)); clear hn103_0; clear hn103_1; replace p103 := eq_true p103; replace q103 := eq_true q103))
             repeat (go_quiet (fail); try go_wp2_with (fail))
             go_ret
             exact ⟨by first | rfl | (simp [errW_none, errW_some] <;> rfl) | (simp only [← hji15]; first | rfl | (simp [errW_none, errW_some] <;> rfl)) | (simp [*, errW_none, errW_some] <;> rfl), be1_ HB.out GE102.out⟩
            ·rw [if_neg c18] at H
             have c18b0 : decide (((rd_T103 l0 x7_1).f0) < (wrap64 (((rd_T103 l0 (ji15)).f1) + 2))) = false := decide_eq_false c18
             clear c18
             have H' := Aside0.mk H
             clear H
             have p101 : 0 ≤ (x7_1 : Int) := of_decide_eq_true as_
             have q101 : x7_1 < (l0.length : Int) := of_decide_eq_true as_
             obtain ⟨ad101, e101, hx101_0, hx101_1⟩ := at_T103 HR0.out x7_1 p101 q101
             cases e101
             replace hx101_0 := mv_ HB.out hx101_0
             replace hx101_1 := mv_ HB.out hx101_1
             replace p101 := eq_true p101
             replace q101 := eq_true q101
             go_wp2_with (((with_reducible refine gate_dst (N := 4) rfl ?_); refine box_event ?hg (N := 4) ?hd (cs := #[.int .i64 0, .int .i64 0]) (t := 103) ?hr ?_; (case hd => rfl); (case hg => rfl); (case hr => first | (go_simp; done) | (go_simp; rfl)); intro gb102 hg w21 hbox hb; have n0_ := Aside0.mk (below_step (be_ HB.out) hb); have n1_ := Aside0.mk (hbox); have n2_ := Aside0.mk ((by rw [hg]; exact (below_size (be_ HB.out)) : w.heap.size ≤ gb102)); have n3_ := Aside0.mk ((by rw [hg]; exact (below_size (be_ HB.out)) : w.heap.size ≤ gb102)); clear HB; have HB := n0_; have BK102 := n1_; have GW102 := n2_; have GE102 := n3_; clear n0_ n1_ n2_ n3_; clear hb hbox hg; have hcz22_0 : w21.cell? ⟨gb102, 0, none⟩ = some (.int .i64 0) := (blk_cell BK102.out 0).trans rfl; have hcz22_1 : w21.cell? ⟨gb102, 1, none⟩ = some (.int .i64 0) := (blk_cell BK102.out 1).trans rfl; have hfz22_0 := blk_frozen BK102.out 0; have hfz22_1 := blk_frozen BK102.out 1; have p103 : 0 ≤ ((ji15) : Int) := of_decide_eq_true as_; have q103 : (ji15) < (l0.length : Int) := of_decide_eq_true as_; obtain ⟨ad103, e103, hx103_0, hx103_1⟩ := at_T103 HR0.out (ji15) p103 q103; obtain rfl : ad101 = ad103 := (by injection e103); have hn103_0 : ad101.block ≠ gb102 := Nat.ne_of_lt (Nat.lt_of_lt_of_le (by have := World.block_lt_of_cell? _ _ hx103_0; first | rwa [add_block] at this | exact this) GW102.out); have hn103_1 : ad101.block ≠ gb102 := Nat.ne_of_lt (Nat.lt_of_lt_of_le (by have := World.block_lt_of_cell? _ _ hx103_0; first | rwa [add_block] at this | exact this) GW102.out); replace hx103_0 := mv_ HB.out hx103_0; replace hx103_1 := mv_ HB.out hx103_1; replace hx103_0 := (cell_far (p := ⟨gb102, 0, none⟩) (by first | (rw [add_block]; exact hn103_0) | (show (Addr.add _ _).block ≠ _; rw [add_block]; exact hn103_0) | exact hn103_0) (.int .i64 ((rd_T103 l0 x7_1).f0))).trans hx103_0; replace hx103_1 := (cell_far (p := ⟨gb102, 0, none⟩) (by first | (rw [add_block]; exact hn103_0) | (show (Addr.add _ _).block ≠ _; rw [add_block]; exact hn103_0) | exact hn103_0) (.int .i64 ((rd_T103 l0 x7_1).f0))).trans hx103_1; replace hx103_0 := (cell_far (p := ⟨gb102, 1, none⟩) (by first | (rw [add_block]; exact hn103_1) | (show (Addr.add _ _).block ≠ _; rw [add_block]; exact hn103_1) | exact hn103_1) (.int .i64 ((rd_T103 l0 x7_1).f1))).trans hx103_0; replace hx103_1 := (cell_far (p := ⟨gb102, 1, none⟩) (by first | (rw [add_block]; exact hn103_1) | (show (Addr.add _ _).block ≠ _; rw [add_block]; exact hn103_1) | exact hn103_1) (.int .i64 ((rd_T103 l0 x7_1).f1))).trans hx103_1; (try have hy103_0 := fun (n_ : Nat) => (show ((((w21.drewN n_).setCell ⟨gb102, 0, none⟩ (.int .i64 ((rd_T103 l0 x7_1).f0))).setCell ⟨gb102, 1, none⟩ (.int .i64 ((rd_T103 l0 x7_1).f1)))).cell? _ = some _ from hx103_0)); (try have hy103_1 := fun (n_ : Nat) => (show ((((w21.drewN n_).setCell ⟨gb102, 0, none⟩ (.int .i64 ((rd_T103 l0 x7_1).f0))).setCell ⟨gb102, 1, none⟩ (.int .i64 ((rd_T103 l0 x7_1).f1)))).cell? _ = some _ from hx103_1)); clear hn103_0; clear hn103_1; replace p103 := eq_true p103; replace q103 := eq_true q103))
             repeat (go_quiet (fail); try go_wp2_with (fail))
             go_roundg k1
             case measure => have := HK1.out; omega
             case rel => exact ⟨(wrap64 (x7_1 + 1)), rs_, H', ⟨by have := HK1.out; omega⟩, ⟨be1_ HB.out GE102.out⟩⟩
           ·rw [if_neg c17] at H
            exact absurd H (by simp)
          ·rw [if_neg c16] at H
           exact absurd H (by simp)
         ·rw [if_neg c14] at H
          have c14b0 : decide (0 < x7_1) = false := decide_eq_false c14
          clear c14
          have H' := Aside0.mk H
          clear H
          have p101 : 0 ≤ (x7_1 : Int) := of_decide_eq_true as_
          have q101 : x7_1 < (l0.length : Int) := of_decide_eq_true as_
          obtain ⟨ad101, e101, hx101_0, hx101_1⟩ := at_T103 HR0.out x7_1 p101 q101
          cases e101
          replace hx101_0 := mv_ HB.out hx101_0
          replace hx101_1 := mv_ HB.out hx101_1
          replace p101 := eq_true p101
          replace q101 := eq_true q101
          go_wp2_with (((with_reducible refine gate_dst (N := 4) rfl ?_); refine box_event ?hg (N := 4) ?hd (cs := #[.int .i64 0, .int .i64 0]) (t := 103) ?hr ?_; (case hd => rfl); (case hg => rfl); (case hr => first | (go_simp; done) | (go_simp; rfl)); intro gb102 hg w23 hbox hb; have n0_ := Aside0.mk (below_step (be_ HB.out) hb); have n1_ := Aside0.mk (hbox); have n2_ := Aside0.mk ((by rw [hg]; exact (below_size (be_ HB.out)) : w.heap.size ≤ gb102)); have n3_ := Aside0.mk ((by rw [hg]; exact (below_size (be_ HB.out)) : w.heap.size ≤ gb102)); clear HB; have HB := n0_; have BK102 := n1_; have GW102 := n2_; have GE102 := n3_; clear n0_ n1_ n2_ n3_; clear hb hbox hg; have hcz24_0 : w23.cell? ⟨gb102, 0, none⟩ = some (.int .i64 0) := (blk_cell BK102.out 0).trans rfl; have hcz24_1 : w23.cell? ⟨gb102, 1, none⟩ = some (.int .i64 0) := (blk_cell BK102.out 1).trans rfl; have hfz24_0 := blk_frozen BK102.out 0; have hfz24_1 := blk_frozen BK102.out 1))
          repeat (go_quiet (fail); try go_wp2_with (fail))
          go_roundg k1
          case measure => have := HK1.out; omega
          case rel => exact ⟨(wrap64 (x7_1 + 1)), rs_, H', ⟨by have := HK1.out; omega⟩, ⟨be1_ HB.out GE102.out⟩⟩
     ·rw [if_neg c4] at H
      exact absurd H (by simp)
    ·rw [if_neg c3] at H
     exact absurd H (by simp)
   ·rw [if_neg c2] at H
    have c2b0 : decide (x7_1 < (l0.length : Int)) = false := decide_eq_false c2
    clear c2
    obtain rfl := Option.some.inj H
    go_wp2
    repeat (go_quiet (fail); try go_wp2)
    go_ret
    exact ⟨rt_, be_ HB.out⟩

end Go.Proofs.Ytijmhelacmjggaa.P
-- The kit's printed words LNode, cut down by wip/gen/pack.py to what this proof reaches.
namespace Go.Proofs.Ytijmhelacmjggaa.P
open Go.RowKit Go.Proofs.YtijmhelacmjggaaW.PrintWords Go.Proofs.YtijmhelacmjggaaW.PrintLast Go.Proofs.YtijmhelacmjggaaW.PrintMore Go.Proofs.YtijmhelacmjggaaEv
set_option linter.unusedVariables false
set_option linter.unusedSimpArgs false
/-- How many Kids an Op has; -1: it is none. -/
def kidsN (op : Int) : Int := if op = 1 ∨ op = 2 then 0 else if op = 3 ∨ op = 4 then 2 else if op = 5 ∨ op = 6 ∨ op = 7 ∨ op = 8 then 1 else -1
theorem impl_kidsOf_ev (op : Int) : Ev (fun k => impl_kidsOf.f k op) (kidsN op) := by
  have h1 : ∀ b, Ev (fun k => impl_kidsOf.j1 k op b) (if b then 2 else if op = 5 ∨ op = 6 ∨ op = 7 ∨ op = 8 then 1 else -1) := by
    intro b
    rw [ev_succ]
    simp only [impl_kidsOf.j1, ev_ite, ev_some]
    cases b <;> grind
  have h0 : ∀ b, Ev (fun k => impl_kidsOf.j0 k op b) (if b then 0 else if op = 3 ∨ op = 4 then 2 else if op = 5 ∨ op = 6 ∨ op = 7 ∨ op = 8 then 1 else -1) := by
    intro b
    rw [ev_succ]
    simp only [impl_kidsOf.j0, ev_ite, ev_some]
    cases b
    · by_cases h3 : op = 3
      · simpa [h3] using h1 (op == 3)
      · rw [if_neg (by simp), if_neg h3]
        refine ev_congr (h1 (op == 4)) ?_
        grind
    · simp
  unfold impl_kidsOf.f kidsN
  simp only [ev_ite]
  by_cases e1 : op = 1
  · rw [if_pos e1]
    refine ev_congr (h0 _) ?_
    grind
  · rw [if_neg e1]
    refine ev_congr (h0 _) ?_
    grind
def timesB (mi ma : Int) : Bool := decide (0 ≤ mi ∧ mi ≤ 30) && (decide (ma = -1) || (decide (mi ≤ ma ∧ ma ≤ 30) && decide (ma ≠ 0)))
theorem impl_timesOk_eq (mi ma : Int) : impl_timesOk.f mi ma = some (timesB mi ma) := by
  unfold impl_timesOk.f timesB
  simp only [impl_within_eq, Option.bind_some]
  by_cases h : 0 ≤ mi ∧ mi ≤ 30 <;> by_cases h1 : ma = -1 <;> by_cases h2 : mi ≤ ma ∧ ma ≤ 30 <;> simp_all <;> grind
/-- Spans that rise, with a gap. -/
def spansR : Int → List S103 → Bool
  | _, [] => true
  | last, s :: rest => decide (0 ≤ s.f0) && decide (s.f0 ≤ s.f1) && decide (s.f1 ≤ 255) && decide (last + 2 ≤ s.f0) && spansR s.f1 rest
def classB (l : List S103) : Bool := spansR (-2) l
theorem spansR_few : ∀ (l : List S103) (last : Int), -2 ≤ last → spansR last l = true → 2 * (l.length : Int) ≤ 255 - last ∨ l = [] := by
  intro l
  induction l with
  | nil => intro last _ _; exact .inr rfl
  | cons a l ih =>
    intro last h0 h
    simp only [spansR, Bool.and_eq_true, decide_eq_true_eq] at h
    left
    rcases ih a.f1 (by omega) h.2 with h1 | h1
    · simp only [List.length_cons]
      omega
    · subst h1
      simp
      omega
theorem classB_few {l : List S103} (h : classB l = true) : l.length ≤ 128 := by
  rcases spansR_few l (-2) (by omega) h with h1 | h1
  · omega
  · simp [h1]
theorem impl_ClassOk_ev (l : List S103) (hl : l.length ≤ 9223372036854775807) : Ev (fun k => impl_ClassOk.f k l) (classB l) := by
  unfold impl_ClassOk.f classB
  have key := down l.length (fun i => ∀ last : Int, (i = 0 → last = -2) → (0 < i → last = (rd_T103 l ((i - 1 : Nat) : Int)).f1 ∧ 0 ≤ last ∧ last ≤ 255) → Ev (fun k => impl_ClassOk.l0 k l l l.length (i : Nat)) (spansR last (l.drop i))) ?_ ?_ 0 (by omega) (-2) (fun _ => rfl) (by omega)
  · exact key
  · intro last _ _
    rw [ev_succ]
    simp only [impl_ClassOk.l0, ev_ite, ev_some]
    rw [if_neg (by omega), List.drop_length]
    rfl
  · intro i hi ih last hl0 hl1
    rw [ev_succ, drop_cons l z103 i hi]
    have hr : l.getD i z103 = rd_T103 l i := by simp [rd_T103]
    rw [hr]
    have ih2 := fun h => ih (rd_T103 l i).f1 (by omega) (fun _ => ⟨by rw [Nat.add_sub_cancel], h⟩)
    simp only [impl_ClassOk.l0, Option.bind_some, ev_ite, ev_some, spansR]
    rw [if_pos (by omega), if_pos (by omega), if_pos (by omega), wrap_succ hi (by omega)]
    have hprev : 0 < i → (0 ≤ wrap64 ((i : Int) - 1) ∧ wrap64 ((i : Int) - 1) < l.length ∧ (rd_T103 l (wrap64 ((i : Int) - 1))).f1 = last ∧ wrap64 (last + 2) = last + 2) := by
      intro hp
      have := hl1 hp
      rw [wrap_id (x := (i : Int) - 1) (by omega) (by omega), wrap_id (x := last + 2) (by omega) (by omega)]
      exact ⟨by omega, by omega, by rw [this.1, show ((i : Int) - 1) = ((i - 1 : Nat) : Int) by omega], rfl⟩
    generalize (l.drop (i + 1)) = T at *
    generalize rd_T103 l (i : Int) = a at *
    generalize hG : (fun k => impl_ClassOk.l0 k l l (l.length : Int) ((i + 1 : Nat) : Int)) = G at *
    by_cases c1 : a.f0 < 0
    · rw [if_pos c1]; simp [show ¬ 0 ≤ a.f0 by omega]
    rw [if_neg c1]
    by_cases c2 : a.f0 > a.f1
    · rw [if_pos c2]; simp [show ¬ a.f0 ≤ a.f1 by omega]
    rw [if_neg c2]
    by_cases c3 : a.f1 > 255
    · rw [if_pos c3]; simp [show ¬ a.f1 ≤ 255 by omega]
    rw [if_neg c3]
    have hend : (last + 2 ≤ a.f0) → Ev G (decide (0 ≤ a.f0) && decide (a.f0 ≤ a.f1) && decide (a.f1 ≤ 255) && decide (last + 2 ≤ a.f0) && spansR a.f1 T) := by
      intro h5
      refine ev_congr (ih2 (by omega)) ?_
      simp [show 0 ≤ a.f0 by omega, show a.f0 ≤ a.f1 by omega, show a.f1 ≤ 255 by omega, h5]
    by_cases h00 : i = 0
    · rw [if_neg (by omega)]
      exact hend (by have := hl0 h00; omega)
    · obtain ⟨h1', h2', h3', h4'⟩ := hprev (by omega)
      rw [if_pos (by omega), if_pos h1', if_pos h2', h3', h4']
      by_cases c5 : a.f0 < last + 2
      · rw [if_pos c5]; simp [show ¬ last + 2 ≤ a.f0 by omega]
      · rw [if_neg c5]
        exact hend (by omega)
theorem spec_ClassOk_ev (l : List S103) : Ev (fun k => spec_ClassOk.f k l) (classB l) := by
  unfold spec_ClassOk.f
  simp only [ev_ite]
  by_cases h6 : l.length ≤ 128
  · rw [if_neg (by omega)]
    unfold classB
    have key := down l.length (fun i => ∀ last : Int, (i = 0 → last = -2) → (0 < i → last = (rd_T103 l ((i - 1 : Nat) : Int)).f1 ∧ 0 ≤ last ∧ last ≤ 255) → Ev (fun k => spec_ClassOk.l0 k l (i : Nat)) (spansR last (l.drop i))) ?_ ?_ 0 (by omega) (-2) (fun _ => rfl) (by omega)
    · exact key
    · intro last _ _
      rw [ev_succ]
      simp only [spec_ClassOk.l0, ev_ite, ev_some]
      rw [if_neg (by omega), List.drop_length]
      rfl
    · intro i hi ih last hl0 hl1
      rw [ev_succ, drop_cons l z103 i hi]
      have hr : l.getD i z103 = rd_T103 l i := by simp [rd_T103]
      rw [hr]
      have ih2 := fun h => ih (rd_T103 l i).f1 (by omega) (fun _ => ⟨by rw [Nat.add_sub_cancel], h⟩)
      simp only [spec_ClassOk.l0, spec_l1In_eq, Option.bind_some, ev_ite, ev_some, spansR]
      rw [if_pos (by omega), if_pos (by omega), wrap_succ hi (by omega)]
      have hprev : 0 < i → (0 ≤ wrap64 ((i : Int) - 1) ∧ wrap64 ((i : Int) - 1) < l.length ∧ (rd_T103 l (wrap64 ((i : Int) - 1))).f1 = last ∧ wrap64 (last + 2) = last + 2) := by
        intro hp
        have := hl1 hp
        rw [wrap_id (x := (i : Int) - 1) (by omega) (by omega), wrap_id (x := last + 2) (by omega) (by omega)]
        exact ⟨by omega, by omega, by rw [this.1, show ((i : Int) - 1) = ((i - 1 : Nat) : Int) by omega], rfl⟩
      generalize (l.drop (i + 1)) = T at *
      generalize rd_T103 l (i : Int) = a at *
      generalize hG : (fun k => spec_ClassOk.l0 k l ((i + 1 : Nat) : Int)) = G at *
      by_cases c1 : 0 ≤ a.f0 ∧ a.f0 ≤ 255
      · rw [if_pos (by simpa using c1)]
        by_cases c2 : a.f0 ≤ a.f1 ∧ a.f1 ≤ 255
        · rw [if_pos (by simpa using c2)]
          have hend : (last + 2 ≤ a.f0) → Ev G (decide (0 ≤ a.f0) && decide (a.f0 ≤ a.f1) && decide (a.f1 ≤ 255) && decide (last + 2 ≤ a.f0) && spansR a.f1 T) := by
            intro h5
            refine ev_congr (ih2 (by omega)) ?_
            simp [c1, c2, h5]
          by_cases h00 : i = 0
          · rw [if_neg (by omega)]
            exact hend (by have := hl0 h00; omega)
          · obtain ⟨h1', h2', h3', h4'⟩ := hprev (by omega)
            rw [if_pos (by omega), if_pos h1', if_pos h2', h3', h4']
            by_cases c5 : a.f0 < last + 2
            · rw [if_pos c5]; simp [show ¬ last + 2 ≤ a.f0 by omega]
            · rw [if_neg c5]
              exact hend (by omega)
        · rw [if_neg (by simpa using c2)]
          grind
      · rw [if_neg (by simpa using c1)]
        grind
  · rw [if_pos (by omega)]
    refine ev_some.2 ?_
    cases h : classB l
    · rfl
    · exact absurd (classB_few h) h6
def nodeB (op : Int) (set : List S103) (kids : List Int) (mi ma place : Int) : Bool :=
  decide ((kids.length : Int) = kidsN op) && !(kids.any fun x => !decide (0 ≤ x ∧ x ≤ place - 1)) && (if op = 2 then classB set && !decide (set.length = 0) else decide (set.length = 0)) && (if op = 8 then timesB mi ma else decide (mi = 0) && decide (ma = 0))
end Go.Proofs.Ytijmhelacmjggaa.P
-- Made by wip/gen/pp.py of this session over the kit's print of the loaded program: a function, and the contract of its walk. Lean checks it.
namespace Go.Proofs.Ytijmhelacmjggaa.P
open Go.RowKit Go.Proofs.YtijmhelacmjggaaW.PrintWords Go.Proofs.YtijmhelacmjggaaW.PrintLast Go.Proofs.YtijmhelacmjggaaW.PrintMore
attribute [local go_sem] max2_int min2_int max_two min_two max_three min_three max_four min_four   -- for this text's walks alone
set_option linter.unusedVariables false
set_option linter.unusedSimpArgs false

/-! ### impl_RNode: function 118 -/
def impl_RNode.f (l0 : List (S156)) : Option (Int) := some (l0.length : Int)
set_option maxHeartbeats 8000000 in
set_option maxRecDepth 100000 in
theorem impl_RNode.calls (A0 : Option Addr) (c0 : Nat) (l0 : List (S156)) (r : Int) (w : World) (hr0 : Kd.C k156 w A0 l0.length l0) (hc0 : l0.length ≤ c0) (h : impl_RNode.f l0 = some r) :
  Calls Try.prog 118 #[.slice A0 l0.length c0] w fun e w' => e = .returned (.int .i64 r) ∧ Drawn0 w w' := by
 have HR0 := Aside0.mk hr0
 have HC0 := Aside0.mk hc0
 clear hr0 hc0
 have H : (some (l0.length : Int)) = some r := h
 clear h
 obtain rfl := Option.some.inj H
 go_enter Try.func118, Try.ntmps118
 go_wp2
 go_ret
 exact ⟨by first | rfl | (simp; done) | (simp [*]; done), by repeat (first | exact Drawn0.refl _ | apply Drawn0.step)⟩

end Go.Proofs.Ytijmhelacmjggaa.P
/- What slices.IndexFunc and slices.ContainsFunc answer at a []int64, for whatever predicate that writes and makes nothing. -/
namespace Go.Proofs.Ytijmhelacmjggaa.P
open Go.RowKit Go.Shelf Go.Proofs.YtijmhelacmjggaaW.PrintWords Go.Proofs.YtijmhelacmjggaaW.PrintLast Go.Proofs.YtijmhelacmjggaaW.PrintMore Go.Proofs.YtijmhelacmjggaaEv
set_option linter.unusedVariables false
set_option linter.unusedSimpArgs false

theorem IndexFunc_int (g : Nat) (lb : Array Value) (eg : ∀ args w, (callFunc g args).run Try.prog w = .ok (.enter g args) w) (p : Int → Bool) (A0 : Option Addr) (c0 : Nat) (l0 : List Int) (w : World) (hr0 : Kd.C (Kd.int .i64) w A0 l0.length l0)
    (hp : ∀ (n : Nat) (x : Int), x ∈ l0 → Calls Try.prog g (#[.int .i64 x] ++ lb) (w.drewN n) fun e w' => e = .returned (.bool (p x)) ∧ ∃ m, w' = (w.drewN n).drewN m) :
    Calls Try.prog 168 #[.slice A0 l0.length c0, .func (.func g) #[] lb] w fun e w' => e = .returned (.int .i64 (idxP p l0 0)) ∧ Drawn0 w w' := by
  have hn := hr0.2.1
  have HP := Lib.hid hp
  clear hp
  have HR := Aside0.mk hr0
  clear hr0
  go_enter Try.func168, Try.ntmps168
  go_wp2
  go_loopg [5, 8] l0.length (fun gg _ s8 wr => ∃ kk nd : Nat, kk ≤ l0.length ∧ l0.length - kk ≤ gg ∧ s8 = .int .i64 kk ∧ wr = w.drewN nd ∧ Aside0 (idxP p l0 0 = idxP p (l0.drop kk) kk))
  case atStart => exact ⟨0, 0, Nat.zero_le _, by omega, rfl, rfl, ⟨by simp⟩⟩
  case round =>
    obtain ⟨kk, nd, hkk, hg, rfl, rfl, HA⟩ := hrel
    by_cases hlt : kk < l0.length
    · have hltz : (kk : Int) < (l0.length : Int) := by omega
      obtain ⟨ad, rfl, hx0⟩ := Kd.at_int HR.out (kk : Int) (by omega) hltz
      rw [Int.toNat_natCast] at hx0
      have hmem : rd l0 (kk : Int) ∈ l0 := by
        unfold rd
        rw [List.getD_eq_getElem?_getD, List.getElem?_eq_getElem (by simpa using hlt)]
        exact List.getElem_mem _
      have hcall := HP.out nd (rd l0 (kk : Int)) hmem
      have hstep : Aside0 (idxP p l0 0 = if p (rd l0 (kk : Int)) then (kk : Int) else idxP p (l0.drop (kk + 1)) ((kk + 1 : Nat) : Int)) := ⟨by
        rw [HA.out, drop_cons l0 0 kk hlt]
        have hr : l0.getD kk 0 = rd l0 (kk : Int) := by simp [rd]
        rw [hr]
        rfl⟩
      clear hmem
      generalize rd l0 (kk : Int) = y at *
      cases hq : p y with
      | true =>
        rw [hq] at hcall
        have hs2 : Aside0 (idxP p l0 0 = (kk : Int)) := ⟨by rw [hstep.out, hq]; rfl⟩
        clear hstep hq HA
        go_wp2_with (go_at_fn g; refine hcall.mono ?_; rintro e w' ⟨rfl, m, rfl⟩)
        go_ret
        exact ⟨by (rw [hs2.out]; try rfl), by repeat (first | exact Drawn0.refl _ | apply Drawn0.step)⟩
      | false =>
        rw [hq] at hcall
        have hs2 : Aside0 (idxP p l0 0 = idxP p (l0.drop (kk + 1)) ((kk + 1 : Nat) : Int)) := ⟨by rw [hstep.out, hq]; rfl⟩
        clear hstep hq HA
        go_wp2_with (go_at_fn g; refine hcall.mono ?_; rintro e w' ⟨rfl, m, rfl⟩)
        go_roundg (l0.length - (kk + 1))
        case measure => omega
        case rel => exact ⟨kk + 1, _, by omega, by omega, by go_num, by first | rfl | exact World.drewN_drewN _ _ _, hs2⟩
    · have hltz : ¬ (kk : Int) < (l0.length : Int) := by omega
      have hk : kk = l0.length := by omega
      have hs2 : Aside0 (idxP p l0 0 = -1) := ⟨by rw [HA.out, hk]; simp [idxP]⟩
      clear hk HA
      go_wp2
      go_ret
      exact ⟨by (rw [hs2.out]; try rfl), by repeat (first | exact Drawn0.refl _ | apply Drawn0.step)⟩

theorem ContainsFunc_int (g : Nat) (lb : Array Value) (eg : ∀ args w, (callFunc g args).run Try.prog w = .ok (.enter g args) w) (p : Int → Bool) (A0 : Option Addr) (c0 : Nat) (l0 : List Int) (w : World) (hr0 : Kd.C (Kd.int .i64) w A0 l0.length l0)
    (hp : ∀ (n : Nat) (x : Int), x ∈ l0 → Calls Try.prog g (#[.int .i64 x] ++ lb) (w.drewN n) fun e w' => e = .returned (.bool (p x)) ∧ ∃ m, w' = (w.drewN n).drewN m) :
    Calls Try.prog 153 #[.slice A0 l0.length c0, .func (.func g) #[] lb] w fun e w' => e = .returned (.bool (l0.any p)) ∧ Drawn0 w w' := by
  have hc := IndexFunc_int g lb eg p A0 c0 l0 w hr0 hp
  have ha : l0.any p = decide (0 ≤ idxP p l0 0) := by
    rw [Bool.eq_iff_iff, decide_eq_true_iff, idxP_ge p l0 0 (by omega)]
  rw [ha]
  clear ha hr0 hp
  generalize idxP p l0 0 = i at hc ⊢
  go_enter Try.func153, Try.ntmps153
  go_wp2_with (go_at_call 168; refine hc.mono ?_; rintro e w' ⟨rfl, ⟨nd, rfl⟩⟩)
  go_ret
  exact ⟨rfl, by repeat (first | exact Drawn0.refl _ | apply Drawn0.step)⟩
end Go.Proofs.Ytijmhelacmjggaa.P
/- The walk of impl.nodeOk with its closure, and what it answers. -/
namespace Go.Proofs.Ytijmhelacmjggaa.P
open Go.RowKit Go.Shelf Go.Proofs.YtijmhelacmjggaaW.PrintWords Go.Proofs.YtijmhelacmjggaaW.PrintLast Go.Proofs.YtijmhelacmjggaaW.PrintMore Go.Proofs.YtijmhelacmjggaaEv
set_option linter.unusedVariables false
set_option linter.unusedSimpArgs false

set_option maxRecDepth 100000 in
/-- The closure of nodeOk: a Kid that lies not ahead of the place. -/
theorem nodeOk_1_calls (place : Int) (h0 : -9223372036854775807 ≤ place) (h1 : place ≤ 9223372036854775807) (B : Nat) (w : World) (n : Nat) (hcell : w.cell? ⟨B, 0, none⟩ = some (.int .i64 place)) (x : Int) :
    Calls Try.prog 154 #[.int .i64 x, .pointer (some ⟨B, 0, none⟩)] (w.drewN n) fun e w' => e = .returned (.bool (!decide (0 ≤ x ∧ x ≤ place - 1))) ∧ ∃ m, w' = (w.drewN n).drewN m := by
  have hw1 := Aside0.mk (impl_within_eq x 0 (place - 1))
  generalize decide (0 ≤ x ∧ x ≤ place - 1) = b at hw1 ⊢
  go_enter Try.func154, Try.ntmps154
  go_wp2_with fail
  refine (impl_within.calls _ _ _ _ _ hw1.out).mono ?_
  rintro e w' ⟨rfl, ⟨nd, rfl⟩⟩
  go_wp2_with fail
  go_ret
  exact ⟨rfl, nd, by first | rfl | simp⟩
theorem kids_calls (place : Int) (h0 : -9223372036854775807 ≤ place) (h1 : place ≤ 9223372036854775807) (B : Nat) (w : World) (hcell : w.cell? ⟨B, 0, none⟩ = some (.int .i64 place)) (A2 : Option Addr) (c2 : Nat) (l2 : List Int) (hr2 : Kd.C (Kd.int .i64) w A2 l2.length l2) (b : Bool) (hb : Aside0 (l2.any (fun x => !decide (0 ≤ x ∧ x ≤ place - 1)) = b)) :
    Calls Try.prog 153 #[.slice A2 l2.length c2, .func (.func 154) #[] #[.pointer (some ⟨B, 0, none⟩)]] w fun e w' => e = .returned (.bool b) ∧ Drawn0 w w' := by
  have eg : ∀ args w, (callFunc 154 args).run Try.prog w = .ok (.enter 154 args) w := enters_of Try.func154 (by kernel_rfl) rfl
  have := ContainsFunc_int 154 #[.pointer (some ⟨B, 0, none⟩)] eg (fun x => !decide (0 ≤ x ∧ x ≤ place - 1)) A2 c2 l2 w hr2 (fun n x _ => nodeOk_1_calls place h0 h1 B w n hcell x)
  rw [hb.out] at this
  exact this

set_option maxHeartbeats 1000000 in
set_option maxRecDepth 100000 in
theorem nodeOk_kids (op : Int) (A1 : Option Addr) (c1 : Nat) (l1 : List S103) (A2 : Option Addr) (c2 : Nat) (l2 : List Int) (mi ma place : Int) (w : World) (hp0 : 0 ≤ place) (hp1 : place ≤ 1000000) (hr1 : Kd.C k103 w A1 l1.length l1) (hc1 : l1.length ≤ c1) (hr2 : Kd.C (Kd.int .i64) w A2 l2.length l2) (hc2 : l2.length ≤ c2) (hk : (l2.length : Int) ≠ kidsN op) :
    Calls Try.prog 119 #[.agg #[.int .i64 op, .slice A1 l1.length c1, .slice A2 l2.length c2, .int .i64 mi, .int .i64 ma], .int .i64 place] w fun e w' => e = .returned (.bool false) ∧ Below w.heap.size w w' := by
  obtain ⟨kk, hkk⟩ := ev_get (impl_kidsOf_ev op)
  have HK := Aside0.mk hkk
  have HR1 := Aside0.mk hr1
  have HC1 := Aside0.mk hc1
  have HR2 := Aside0.mk hr2
  have HC2 := Aside0.mk hc2
  clear hkk hr1 hc1 hr2 hc2
  generalize kidsN op = ko at HK hk
  have hb0 : Below w.heap.size w ((w.alloc (.cells #[.int .i64 op, .slice A1 l1.length c1, .slice A2 l2.length c2, .int .i64 mi, .int .i64 ma] 156)).alloc (.cells #[.int .i64 place] 2)) := below_alloc (below_alloc (Below.refl _ _) _) _
  have hne : ((l2.length : Int) != ko) = true := bne_iff_ne.2 hk
  clear hk
  go_enter Try.func119, Try.ntmps119
  go_wp2_with fail
  go_quiet (first | (go_at_call 152; refine (impl_kidsOf.calls _ _ _ _ HK.out).mono ?_; rintro e w' ⟨rfl, ⟨nd, rfl⟩⟩; first | exact ⟨rfl, _, World.drewN_drewN _ _ _⟩ | exact ⟨rfl, _, Eq.trans (World.drewN_drewN _ _ _) (congrArg (World.drewN _) (Nat.add_assoc _ _ _))⟩))
  go_wp2_with fail
  go_ret
  exact ⟨rfl, by repeat (first | exact hb0 | apply pw_below_drewN | apply below_drew1)⟩
set_option maxHeartbeats 1000000 in
set_option maxRecDepth 100000 in
theorem nodeOk_any (op : Int) (A1 : Option Addr) (c1 : Nat) (l1 : List S103) (A2 : Option Addr) (c2 : Nat) (l2 : List Int) (mi ma place : Int) (w : World) (hp0 : 0 ≤ place) (hp1 : place ≤ 1000000) (hr1 : Kd.C k103 w A1 l1.length l1) (hc1 : l1.length ≤ c1) (hr2 : Kd.C (Kd.int .i64) w A2 l2.length l2) (hc2 : l2.length ≤ c2) (hk : (l2.length : Int) = kidsN op) (hany : Aside0 (l2.any (fun x => !decide (0 ≤ x ∧ x ≤ place - 1)) = true)) :
    Calls Try.prog 119 #[.agg #[.int .i64 op, .slice A1 l1.length c1, .slice A2 l2.length c2, .int .i64 mi, .int .i64 ma], .int .i64 place] w fun e w' => e = .returned (.bool false) ∧ Below w.heap.size w w' := by
  obtain ⟨kk, hkk⟩ := ev_get (impl_kidsOf_ev op)
  have HK := Aside0.mk hkk
  have HR1 := Aside0.mk hr1
  have HC1 := Aside0.mk hc1
  have HR2 := Aside0.mk hr2
  have HC2 := Aside0.mk hc2
  clear hkk hr1 hc1 hr2 hc2
  generalize kidsN op = ko at HK hk
  have hb0 : Below w.heap.size w ((w.alloc (.cells #[.int .i64 op, .slice A1 l1.length c1, .slice A2 l2.length c2, .int .i64 mi, .int .i64 ma] 156)).alloc (.cells #[.int .i64 place] 2)) := below_alloc (below_alloc (Below.refl _ _) _) _
  have hne : ((l2.length : Int) != ko) = false := bne_eq_false_iff_eq.2 hk
  clear hk
  go_enter Try.func119, Try.ntmps119
  go_wp2_with fail
  go_quiet (first | (go_at_call 152; refine (impl_kidsOf.calls _ _ _ _ HK.out).mono ?_; rintro e w' ⟨rfl, ⟨nd, rfl⟩⟩; first | exact ⟨rfl, _, World.drewN_drewN _ _ _⟩ | exact ⟨rfl, _, Eq.trans (World.drewN_drewN _ _ _) (congrArg (World.drewN _) (Nat.add_assoc _ _ _))⟩) | (go_at_call 153; refine (kids_calls place (by omega) (by omega) (w.heap.size + 1) _ ?hcl _ _ l2 ?hr _ hany).mono ?_; (case hcl => (go_simp; done)); (case hr => exact Kd.C_below HR2.out (by repeat (first | exact hb0 | apply pw_below_drewN | apply below_drew1))); rintro e w' ⟨rfl, ⟨nd, rfl⟩⟩; first | exact ⟨rfl, _, World.drewN_drewN _ _ _⟩ | exact ⟨rfl, _, Eq.trans (World.drewN_drewN _ _ _) (congrArg (World.drewN _) (Nat.add_assoc _ _ _))⟩))
  go_wp2_with fail
  go_ret
  exact ⟨rfl, by repeat (first | exact hb0 | apply pw_below_drewN | apply below_drew1)⟩
set_option maxHeartbeats 1000000 in
set_option maxRecDepth 100000 in
theorem nodeOk_class (op : Int) (A1 : Option Addr) (c1 : Nat) (l1 : List S103) (A2 : Option Addr) (c2 : Nat) (l2 : List Int) (mi ma place : Int) (w : World) (hp0 : 0 ≤ place) (hp1 : place ≤ 1000000) (hr1 : Kd.C k103 w A1 l1.length l1) (hc1 : l1.length ≤ c1) (hr2 : Kd.C (Kd.int .i64) w A2 l2.length l2) (hc2 : l2.length ≤ c2) (hk : (l2.length : Int) = kidsN op) (hany : Aside0 (l2.any (fun x => !decide (0 ≤ x ∧ x ≤ place - 1)) = false)) (h2 : (op == 2) = true) (h2' : (op != 2) = false) (kc : Nat) (hcl : impl_ClassOk.f kc l1 = some false) :
    Calls Try.prog 119 #[.agg #[.int .i64 op, .slice A1 l1.length c1, .slice A2 l2.length c2, .int .i64 mi, .int .i64 ma], .int .i64 place] w fun e w' => e = .returned (.bool false) ∧ Below w.heap.size w w' := by
  obtain ⟨kk, hkk⟩ := ev_get (impl_kidsOf_ev op)
  have HK := Aside0.mk hkk
  have HR1 := Aside0.mk hr1
  have HC1 := Aside0.mk hc1
  have HR2 := Aside0.mk hr2
  have HC2 := Aside0.mk hc2
  clear hkk hr1 hc1 hr2 hc2
  generalize kidsN op = ko at HK hk
  have hb0 : Below w.heap.size w ((w.alloc (.cells #[.int .i64 op, .slice A1 l1.length c1, .slice A2 l2.length c2, .int .i64 mi, .int .i64 ma] 156)).alloc (.cells #[.int .i64 place] 2)) := below_alloc (below_alloc (Below.refl _ _) _) _
  have hne : ((l2.length : Int) != ko) = false := bne_eq_false_iff_eq.2 hk
  clear hk
  have HCl := Aside0.mk hcl
  clear hcl
  go_enter Try.func119, Try.ntmps119
  go_wp2_with fail
  go_quiet (first | (go_at_call 152; refine (impl_kidsOf.calls _ _ _ _ HK.out).mono ?_; rintro e w' ⟨rfl, ⟨nd, rfl⟩⟩; first | exact ⟨rfl, _, World.drewN_drewN _ _ _⟩ | exact ⟨rfl, _, Eq.trans (World.drewN_drewN _ _ _) (congrArg (World.drewN _) (Nat.add_assoc _ _ _))⟩) | (go_at_call 153; refine (kids_calls place (by omega) (by omega) (w.heap.size + 1) _ ?hcl _ _ l2 ?hr _ hany).mono ?_; (case hcl => (go_simp; done)); (case hr => exact Kd.C_below HR2.out (by repeat (first | exact hb0 | apply pw_below_drewN | apply below_drew1))); rintro e w' ⟨rfl, ⟨nd, rfl⟩⟩; first | exact ⟨rfl, _, World.drewN_drewN _ _ _⟩ | exact ⟨rfl, _, Eq.trans (World.drewN_drewN _ _ _) (congrArg (World.drewN _) (Nat.add_assoc _ _ _))⟩))
  go_wp2_with fail
  refine (impl_ClassOk.calls kc _ _ l1 false _ ?side1 HC1.out HCl.out).mono ?_
  case side1 => exact Kd.C_below HR1.out (by repeat (first | exact hb0 | apply pw_below_drewN | apply below_drew1))
  rintro e w1 ⟨rfl, hb1⟩
  have hbb : Below w.heap.size w w1 := below_then (by repeat (first | exact hb0 | apply pw_below_drewN | apply below_drew1)) (by simp; omega) hb1
  have hg0 : w1.cell? ⟨w.heap.size, 0, none⟩ = some (.int .i64 op) := (hb1.cell (p := ⟨w.heap.size, 0, none⟩) (by simp; omega)).trans (by go_simp)
  have hg1 : w1.cell? ⟨w.heap.size, 1, none⟩ = some (.slice A1 l1.length c1) := (hb1.cell (p := ⟨w.heap.size, 1, none⟩) (by simp; omega)).trans (by go_simp)
  have hg3 : w1.cell? ⟨w.heap.size, 3, none⟩ = some (.int .i64 mi) := (hb1.cell (p := ⟨w.heap.size, 3, none⟩) (by simp; omega)).trans (by go_simp)
  have hg4 : w1.cell? ⟨w.heap.size, 4, none⟩ = some (.int .i64 ma) := (hb1.cell (p := ⟨w.heap.size, 4, none⟩) (by simp; omega)).trans (by go_simp)
  clear hb1
  go_wp2_with fail
  go_ret
  exact ⟨rfl, by repeat (first | exact hbb | apply pw_below_drewN | apply below_drew1)⟩
set_option maxHeartbeats 1000000 in
set_option maxRecDepth 100000 in
theorem nodeOk_bare (op : Int) (A1 : Option Addr) (c1 : Nat) (l1 : List S103) (A2 : Option Addr) (c2 : Nat) (l2 : List Int) (mi ma place : Int) (w : World) (hp0 : 0 ≤ place) (hp1 : place ≤ 1000000) (hr1 : Kd.C k103 w A1 l1.length l1) (hc1 : l1.length ≤ c1) (hr2 : Kd.C (Kd.int .i64) w A2 l2.length l2) (hc2 : l2.length ≤ c2) (hk : (l2.length : Int) = kidsN op) (hany : Aside0 (l2.any (fun x => !decide (0 ≤ x ∧ x ≤ place - 1)) = false)) (h2 : (op == 2) = true) (h2' : (op != 2) = false) (kc : Nat) (hcl : impl_ClassOk.f kc l1 = some true) (he : ((l1.length : Int) == 0) = true) :
    Calls Try.prog 119 #[.agg #[.int .i64 op, .slice A1 l1.length c1, .slice A2 l2.length c2, .int .i64 mi, .int .i64 ma], .int .i64 place] w fun e w' => e = .returned (.bool false) ∧ Below w.heap.size w w' := by
  obtain ⟨kk, hkk⟩ := ev_get (impl_kidsOf_ev op)
  have HK := Aside0.mk hkk
  have HR1 := Aside0.mk hr1
  have HC1 := Aside0.mk hc1
  have HR2 := Aside0.mk hr2
  have HC2 := Aside0.mk hc2
  clear hkk hr1 hc1 hr2 hc2
  generalize kidsN op = ko at HK hk
  have hb0 : Below w.heap.size w ((w.alloc (.cells #[.int .i64 op, .slice A1 l1.length c1, .slice A2 l2.length c2, .int .i64 mi, .int .i64 ma] 156)).alloc (.cells #[.int .i64 place] 2)) := below_alloc (below_alloc (Below.refl _ _) _) _
  have hne : ((l2.length : Int) != ko) = false := bne_eq_false_iff_eq.2 hk
  clear hk
  have HCl := Aside0.mk hcl
  clear hcl
  go_enter Try.func119, Try.ntmps119
  go_wp2_with fail
  go_quiet (first | (go_at_call 152; refine (impl_kidsOf.calls _ _ _ _ HK.out).mono ?_; rintro e w' ⟨rfl, ⟨nd, rfl⟩⟩; first | exact ⟨rfl, _, World.drewN_drewN _ _ _⟩ | exact ⟨rfl, _, Eq.trans (World.drewN_drewN _ _ _) (congrArg (World.drewN _) (Nat.add_assoc _ _ _))⟩) | (go_at_call 153; refine (kids_calls place (by omega) (by omega) (w.heap.size + 1) _ ?hcl _ _ l2 ?hr _ hany).mono ?_; (case hcl => (go_simp; done)); (case hr => exact Kd.C_below HR2.out (by repeat (first | exact hb0 | apply pw_below_drewN | apply below_drew1))); rintro e w' ⟨rfl, ⟨nd, rfl⟩⟩; first | exact ⟨rfl, _, World.drewN_drewN _ _ _⟩ | exact ⟨rfl, _, Eq.trans (World.drewN_drewN _ _ _) (congrArg (World.drewN _) (Nat.add_assoc _ _ _))⟩))
  go_wp2_with fail
  refine (impl_ClassOk.calls kc _ _ l1 true _ ?side1 HC1.out HCl.out).mono ?_
  case side1 => exact Kd.C_below HR1.out (by repeat (first | exact hb0 | apply pw_below_drewN | apply below_drew1))
  rintro e w1 ⟨rfl, hb1⟩
  have hbb : Below w.heap.size w w1 := below_then (by repeat (first | exact hb0 | apply pw_below_drewN | apply below_drew1)) (by simp; omega) hb1
  have hg0 : w1.cell? ⟨w.heap.size, 0, none⟩ = some (.int .i64 op) := (hb1.cell (p := ⟨w.heap.size, 0, none⟩) (by simp; omega)).trans (by go_simp)
  have hg1 : w1.cell? ⟨w.heap.size, 1, none⟩ = some (.slice A1 l1.length c1) := (hb1.cell (p := ⟨w.heap.size, 1, none⟩) (by simp; omega)).trans (by go_simp)
  have hg3 : w1.cell? ⟨w.heap.size, 3, none⟩ = some (.int .i64 mi) := (hb1.cell (p := ⟨w.heap.size, 3, none⟩) (by simp; omega)).trans (by go_simp)
  have hg4 : w1.cell? ⟨w.heap.size, 4, none⟩ = some (.int .i64 ma) := (hb1.cell (p := ⟨w.heap.size, 4, none⟩) (by simp; omega)).trans (by go_simp)
  clear hb1
  go_wp2_with fail
  go_ret
  exact ⟨rfl, by repeat (first | exact hbb | apply pw_below_drewN | apply below_drew1)⟩
set_option maxHeartbeats 1000000 in
set_option maxRecDepth 100000 in
theorem nodeOk_set0 (op : Int) (A1 : Option Addr) (c1 : Nat) (l1 : List S103) (A2 : Option Addr) (c2 : Nat) (l2 : List Int) (mi ma place : Int) (w : World) (hp0 : 0 ≤ place) (hp1 : place ≤ 1000000) (hr1 : Kd.C k103 w A1 l1.length l1) (hc1 : l1.length ≤ c1) (hr2 : Kd.C (Kd.int .i64) w A2 l2.length l2) (hc2 : l2.length ≤ c2) (hk : (l2.length : Int) = kidsN op) (hany : Aside0 (l2.any (fun x => !decide (0 ≤ x ∧ x ≤ place - 1)) = false)) (h2 : (op == 2) = true) (h2' : (op != 2) = false) (kc : Nat) (hcl : impl_ClassOk.f kc l1 = some true) (he : ((l1.length : Int) == 0) = false) (h8 : (op == 8) = false) (hmi : (mi == 0) = false) :
    Calls Try.prog 119 #[.agg #[.int .i64 op, .slice A1 l1.length c1, .slice A2 l2.length c2, .int .i64 mi, .int .i64 ma], .int .i64 place] w fun e w' => e = .returned (.bool false) ∧ Below w.heap.size w w' := by
  obtain ⟨kk, hkk⟩ := ev_get (impl_kidsOf_ev op)
  have HK := Aside0.mk hkk
  have HR1 := Aside0.mk hr1
  have HC1 := Aside0.mk hc1
  have HR2 := Aside0.mk hr2
  have HC2 := Aside0.mk hc2
  clear hkk hr1 hc1 hr2 hc2
  generalize kidsN op = ko at HK hk
  have hb0 : Below w.heap.size w ((w.alloc (.cells #[.int .i64 op, .slice A1 l1.length c1, .slice A2 l2.length c2, .int .i64 mi, .int .i64 ma] 156)).alloc (.cells #[.int .i64 place] 2)) := below_alloc (below_alloc (Below.refl _ _) _) _
  have hne : ((l2.length : Int) != ko) = false := bne_eq_false_iff_eq.2 hk
  clear hk
  have HCl := Aside0.mk hcl
  clear hcl
  go_enter Try.func119, Try.ntmps119
  go_wp2_with fail
  go_quiet (first | (go_at_call 152; refine (impl_kidsOf.calls _ _ _ _ HK.out).mono ?_; rintro e w' ⟨rfl, ⟨nd, rfl⟩⟩; first | exact ⟨rfl, _, World.drewN_drewN _ _ _⟩ | exact ⟨rfl, _, Eq.trans (World.drewN_drewN _ _ _) (congrArg (World.drewN _) (Nat.add_assoc _ _ _))⟩) | (go_at_call 153; refine (kids_calls place (by omega) (by omega) (w.heap.size + 1) _ ?hcl _ _ l2 ?hr _ hany).mono ?_; (case hcl => (go_simp; done)); (case hr => exact Kd.C_below HR2.out (by repeat (first | exact hb0 | apply pw_below_drewN | apply below_drew1))); rintro e w' ⟨rfl, ⟨nd, rfl⟩⟩; first | exact ⟨rfl, _, World.drewN_drewN _ _ _⟩ | exact ⟨rfl, _, Eq.trans (World.drewN_drewN _ _ _) (congrArg (World.drewN _) (Nat.add_assoc _ _ _))⟩))
  go_wp2_with fail
  refine (impl_ClassOk.calls kc _ _ l1 true _ ?side1 HC1.out HCl.out).mono ?_
  case side1 => exact Kd.C_below HR1.out (by repeat (first | exact hb0 | apply pw_below_drewN | apply below_drew1))
  rintro e w1 ⟨rfl, hb1⟩
  have hbb : Below w.heap.size w w1 := below_then (by repeat (first | exact hb0 | apply pw_below_drewN | apply below_drew1)) (by simp; omega) hb1
  have hg0 : w1.cell? ⟨w.heap.size, 0, none⟩ = some (.int .i64 op) := (hb1.cell (p := ⟨w.heap.size, 0, none⟩) (by simp; omega)).trans (by go_simp)
  have hg1 : w1.cell? ⟨w.heap.size, 1, none⟩ = some (.slice A1 l1.length c1) := (hb1.cell (p := ⟨w.heap.size, 1, none⟩) (by simp; omega)).trans (by go_simp)
  have hg3 : w1.cell? ⟨w.heap.size, 3, none⟩ = some (.int .i64 mi) := (hb1.cell (p := ⟨w.heap.size, 3, none⟩) (by simp; omega)).trans (by go_simp)
  have hg4 : w1.cell? ⟨w.heap.size, 4, none⟩ = some (.int .i64 ma) := (hb1.cell (p := ⟨w.heap.size, 4, none⟩) (by simp; omega)).trans (by go_simp)
  clear hb1
  go_wp2_with fail
  go_ret
  exact ⟨rfl, by repeat (first | exact hbb | apply pw_below_drewN | apply below_drew1)⟩
set_option maxHeartbeats 1000000 in
set_option maxRecDepth 100000 in
theorem nodeOk_set1 (op : Int) (A1 : Option Addr) (c1 : Nat) (l1 : List S103) (A2 : Option Addr) (c2 : Nat) (l2 : List Int) (mi ma place : Int) (w : World) (hp0 : 0 ≤ place) (hp1 : place ≤ 1000000) (hr1 : Kd.C k103 w A1 l1.length l1) (hc1 : l1.length ≤ c1) (hr2 : Kd.C (Kd.int .i64) w A2 l2.length l2) (hc2 : l2.length ≤ c2) (hk : (l2.length : Int) = kidsN op) (hany : Aside0 (l2.any (fun x => !decide (0 ≤ x ∧ x ≤ place - 1)) = false)) (h2 : (op == 2) = true) (h2' : (op != 2) = false) (kc : Nat) (hcl : impl_ClassOk.f kc l1 = some true) (he : ((l1.length : Int) == 0) = false) (h8 : (op == 8) = false) (hmi : (mi == 0) = true) :
    Calls Try.prog 119 #[.agg #[.int .i64 op, .slice A1 l1.length c1, .slice A2 l2.length c2, .int .i64 mi, .int .i64 ma], .int .i64 place] w fun e w' => e = .returned (.bool (ma == 0)) ∧ Below w.heap.size w w' := by
  obtain ⟨kk, hkk⟩ := ev_get (impl_kidsOf_ev op)
  have HK := Aside0.mk hkk
  have HR1 := Aside0.mk hr1
  have HC1 := Aside0.mk hc1
  have HR2 := Aside0.mk hr2
  have HC2 := Aside0.mk hc2
  clear hkk hr1 hc1 hr2 hc2
  generalize kidsN op = ko at HK hk
  have hb0 : Below w.heap.size w ((w.alloc (.cells #[.int .i64 op, .slice A1 l1.length c1, .slice A2 l2.length c2, .int .i64 mi, .int .i64 ma] 156)).alloc (.cells #[.int .i64 place] 2)) := below_alloc (below_alloc (Below.refl _ _) _) _
  have hne : ((l2.length : Int) != ko) = false := bne_eq_false_iff_eq.2 hk
  clear hk
  have HCl := Aside0.mk hcl
  clear hcl
  go_enter Try.func119, Try.ntmps119
  go_wp2_with fail
  go_quiet (first | (go_at_call 152; refine (impl_kidsOf.calls _ _ _ _ HK.out).mono ?_; rintro e w' ⟨rfl, ⟨nd, rfl⟩⟩; first | exact ⟨rfl, _, World.drewN_drewN _ _ _⟩ | exact ⟨rfl, _, Eq.trans (World.drewN_drewN _ _ _) (congrArg (World.drewN _) (Nat.add_assoc _ _ _))⟩) | (go_at_call 153; refine (kids_calls place (by omega) (by omega) (w.heap.size + 1) _ ?hcl _ _ l2 ?hr _ hany).mono ?_; (case hcl => (go_simp; done)); (case hr => exact Kd.C_below HR2.out (by repeat (first | exact hb0 | apply pw_below_drewN | apply below_drew1))); rintro e w' ⟨rfl, ⟨nd, rfl⟩⟩; first | exact ⟨rfl, _, World.drewN_drewN _ _ _⟩ | exact ⟨rfl, _, Eq.trans (World.drewN_drewN _ _ _) (congrArg (World.drewN _) (Nat.add_assoc _ _ _))⟩))
  go_wp2_with fail
  refine (impl_ClassOk.calls kc _ _ l1 true _ ?side1 HC1.out HCl.out).mono ?_
  case side1 => exact Kd.C_below HR1.out (by repeat (first | exact hb0 | apply pw_below_drewN | apply below_drew1))
  rintro e w1 ⟨rfl, hb1⟩
  have hbb : Below w.heap.size w w1 := below_then (by repeat (first | exact hb0 | apply pw_below_drewN | apply below_drew1)) (by simp; omega) hb1
  have hg0 : w1.cell? ⟨w.heap.size, 0, none⟩ = some (.int .i64 op) := (hb1.cell (p := ⟨w.heap.size, 0, none⟩) (by simp; omega)).trans (by go_simp)
  have hg1 : w1.cell? ⟨w.heap.size, 1, none⟩ = some (.slice A1 l1.length c1) := (hb1.cell (p := ⟨w.heap.size, 1, none⟩) (by simp; omega)).trans (by go_simp)
  have hg3 : w1.cell? ⟨w.heap.size, 3, none⟩ = some (.int .i64 mi) := (hb1.cell (p := ⟨w.heap.size, 3, none⟩) (by simp; omega)).trans (by go_simp)
  have hg4 : w1.cell? ⟨w.heap.size, 4, none⟩ = some (.int .i64 ma) := (hb1.cell (p := ⟨w.heap.size, 4, none⟩) (by simp; omega)).trans (by go_simp)
  clear hb1
  go_wp2_with fail
  go_ret
  exact ⟨rfl, by repeat (first | exact hbb | apply pw_below_drewN | apply below_drew1)⟩
set_option maxHeartbeats 1000000 in
set_option maxRecDepth 100000 in
theorem nodeOk_full (op : Int) (A1 : Option Addr) (c1 : Nat) (l1 : List S103) (A2 : Option Addr) (c2 : Nat) (l2 : List Int) (mi ma place : Int) (w : World) (hp0 : 0 ≤ place) (hp1 : place ≤ 1000000) (hr1 : Kd.C k103 w A1 l1.length l1) (hc1 : l1.length ≤ c1) (hr2 : Kd.C (Kd.int .i64) w A2 l2.length l2) (hc2 : l2.length ≤ c2) (hk : (l2.length : Int) = kidsN op) (hany : Aside0 (l2.any (fun x => !decide (0 ≤ x ∧ x ≤ place - 1)) = false)) (h2 : (op == 2) = false) (h2' : (op != 2) = true) (he : decide (0 < l1.length) = true) (he' : decide (0 < (l1.length : Int)) = true) :
    Calls Try.prog 119 #[.agg #[.int .i64 op, .slice A1 l1.length c1, .slice A2 l2.length c2, .int .i64 mi, .int .i64 ma], .int .i64 place] w fun e w' => e = .returned (.bool false) ∧ Below w.heap.size w w' := by
  obtain ⟨kk, hkk⟩ := ev_get (impl_kidsOf_ev op)
  have HK := Aside0.mk hkk
  have HR1 := Aside0.mk hr1
  have HC1 := Aside0.mk hc1
  have HR2 := Aside0.mk hr2
  have HC2 := Aside0.mk hc2
  clear hkk hr1 hc1 hr2 hc2
  generalize kidsN op = ko at HK hk
  have hb0 : Below w.heap.size w ((w.alloc (.cells #[.int .i64 op, .slice A1 l1.length c1, .slice A2 l2.length c2, .int .i64 mi, .int .i64 ma] 156)).alloc (.cells #[.int .i64 place] 2)) := below_alloc (below_alloc (Below.refl _ _) _) _
  have hne : ((l2.length : Int) != ko) = false := bne_eq_false_iff_eq.2 hk
  clear hk
  go_enter Try.func119, Try.ntmps119
  go_wp2_with fail
  go_quiet (first | (go_at_call 152; refine (impl_kidsOf.calls _ _ _ _ HK.out).mono ?_; rintro e w' ⟨rfl, ⟨nd, rfl⟩⟩; first | exact ⟨rfl, _, World.drewN_drewN _ _ _⟩ | exact ⟨rfl, _, Eq.trans (World.drewN_drewN _ _ _) (congrArg (World.drewN _) (Nat.add_assoc _ _ _))⟩) | (go_at_call 153; refine (kids_calls place (by omega) (by omega) (w.heap.size + 1) _ ?hcl _ _ l2 ?hr _ hany).mono ?_; (case hcl => (go_simp; done)); (case hr => exact Kd.C_below HR2.out (by repeat (first | exact hb0 | apply pw_below_drewN | apply below_drew1))); rintro e w' ⟨rfl, ⟨nd, rfl⟩⟩; first | exact ⟨rfl, _, World.drewN_drewN _ _ _⟩ | exact ⟨rfl, _, Eq.trans (World.drewN_drewN _ _ _) (congrArg (World.drewN _) (Nat.add_assoc _ _ _))⟩))
  go_wp2_with fail
  go_ret
  exact ⟨rfl, by repeat (first | exact hb0 | apply pw_below_drewN | apply below_drew1)⟩
set_option maxHeartbeats 1000000 in
set_option maxRecDepth 100000 in
theorem nodeOk_times (op : Int) (A1 : Option Addr) (c1 : Nat) (l1 : List S103) (A2 : Option Addr) (c2 : Nat) (l2 : List Int) (mi ma place : Int) (w : World) (hp0 : 0 ≤ place) (hp1 : place ≤ 1000000) (hr1 : Kd.C k103 w A1 l1.length l1) (hc1 : l1.length ≤ c1) (hr2 : Kd.C (Kd.int .i64) w A2 l2.length l2) (hc2 : l2.length ≤ c2) (hk : (l2.length : Int) = kidsN op) (hany : Aside0 (l2.any (fun x => !decide (0 ≤ x ∧ x ≤ place - 1)) = false)) (h2 : (op == 2) = false) (h2' : (op != 2) = true) (he : decide (0 < l1.length) = false) (he' : decide (0 < (l1.length : Int)) = false) (h8 : (op == 8) = true) (r : Bool) (ht : impl_timesOk.f mi ma = some r) :
    Calls Try.prog 119 #[.agg #[.int .i64 op, .slice A1 l1.length c1, .slice A2 l2.length c2, .int .i64 mi, .int .i64 ma], .int .i64 place] w fun e w' => e = .returned (.bool r) ∧ Below w.heap.size w w' := by
  obtain ⟨kk, hkk⟩ := ev_get (impl_kidsOf_ev op)
  have HK := Aside0.mk hkk
  have HR1 := Aside0.mk hr1
  have HC1 := Aside0.mk hc1
  have HR2 := Aside0.mk hr2
  have HC2 := Aside0.mk hc2
  clear hkk hr1 hc1 hr2 hc2
  generalize kidsN op = ko at HK hk
  have hb0 : Below w.heap.size w ((w.alloc (.cells #[.int .i64 op, .slice A1 l1.length c1, .slice A2 l2.length c2, .int .i64 mi, .int .i64 ma] 156)).alloc (.cells #[.int .i64 place] 2)) := below_alloc (below_alloc (Below.refl _ _) _) _
  have hne : ((l2.length : Int) != ko) = false := bne_eq_false_iff_eq.2 hk
  clear hk
  have HT := Aside0.mk ht
  clear ht
  go_enter Try.func119, Try.ntmps119
  go_wp2_with fail
  go_quiet (first | (go_at_call 152; refine (impl_kidsOf.calls _ _ _ _ HK.out).mono ?_; rintro e w' ⟨rfl, ⟨nd, rfl⟩⟩; first | exact ⟨rfl, _, World.drewN_drewN _ _ _⟩ | exact ⟨rfl, _, Eq.trans (World.drewN_drewN _ _ _) (congrArg (World.drewN _) (Nat.add_assoc _ _ _))⟩) | (go_at_call 153; refine (kids_calls place (by omega) (by omega) (w.heap.size + 1) _ ?hcl _ _ l2 ?hr _ hany).mono ?_; (case hcl => (go_simp; done)); (case hr => exact Kd.C_below HR2.out (by repeat (first | exact hb0 | apply pw_below_drewN | apply below_drew1))); rintro e w' ⟨rfl, ⟨nd, rfl⟩⟩; first | exact ⟨rfl, _, World.drewN_drewN _ _ _⟩ | exact ⟨rfl, _, Eq.trans (World.drewN_drewN _ _ _) (congrArg (World.drewN _) (Nat.add_assoc _ _ _))⟩))
  go_wp2_with fail
  refine (impl_timesOk.calls mi ma r _ HT.out).mono ?_
  rintro e w' ⟨rfl, ⟨nd, rfl⟩⟩
  go_wp2_with fail
  go_ret
  exact ⟨rfl, by repeat (first | exact hb0 | apply pw_below_drewN | apply below_drew1)⟩
set_option maxHeartbeats 1000000 in
set_option maxRecDepth 100000 in
theorem nodeOk_rest0 (op : Int) (A1 : Option Addr) (c1 : Nat) (l1 : List S103) (A2 : Option Addr) (c2 : Nat) (l2 : List Int) (mi ma place : Int) (w : World) (hp0 : 0 ≤ place) (hp1 : place ≤ 1000000) (hr1 : Kd.C k103 w A1 l1.length l1) (hc1 : l1.length ≤ c1) (hr2 : Kd.C (Kd.int .i64) w A2 l2.length l2) (hc2 : l2.length ≤ c2) (hk : (l2.length : Int) = kidsN op) (hany : Aside0 (l2.any (fun x => !decide (0 ≤ x ∧ x ≤ place - 1)) = false)) (h2 : (op == 2) = false) (h2' : (op != 2) = true) (he : decide (0 < l1.length) = false) (he' : decide (0 < (l1.length : Int)) = false) (h8 : (op == 8) = false) (hmi : (mi == 0) = false) :
    Calls Try.prog 119 #[.agg #[.int .i64 op, .slice A1 l1.length c1, .slice A2 l2.length c2, .int .i64 mi, .int .i64 ma], .int .i64 place] w fun e w' => e = .returned (.bool false) ∧ Below w.heap.size w w' := by
  obtain ⟨kk, hkk⟩ := ev_get (impl_kidsOf_ev op)
  have HK := Aside0.mk hkk
  have HR1 := Aside0.mk hr1
  have HC1 := Aside0.mk hc1
  have HR2 := Aside0.mk hr2
  have HC2 := Aside0.mk hc2
  clear hkk hr1 hc1 hr2 hc2
  generalize kidsN op = ko at HK hk
  have hb0 : Below w.heap.size w ((w.alloc (.cells #[.int .i64 op, .slice A1 l1.length c1, .slice A2 l2.length c2, .int .i64 mi, .int .i64 ma] 156)).alloc (.cells #[.int .i64 place] 2)) := below_alloc (below_alloc (Below.refl _ _) _) _
  have hne : ((l2.length : Int) != ko) = false := bne_eq_false_iff_eq.2 hk
  clear hk
  go_enter Try.func119, Try.ntmps119
  go_wp2_with fail
  go_quiet (first | (go_at_call 152; refine (impl_kidsOf.calls _ _ _ _ HK.out).mono ?_; rintro e w' ⟨rfl, ⟨nd, rfl⟩⟩; first | exact ⟨rfl, _, World.drewN_drewN _ _ _⟩ | exact ⟨rfl, _, Eq.trans (World.drewN_drewN _ _ _) (congrArg (World.drewN _) (Nat.add_assoc _ _ _))⟩) | (go_at_call 153; refine (kids_calls place (by omega) (by omega) (w.heap.size + 1) _ ?hcl _ _ l2 ?hr _ hany).mono ?_; (case hcl => (go_simp; done)); (case hr => exact Kd.C_below HR2.out (by repeat (first | exact hb0 | apply pw_below_drewN | apply below_drew1))); rintro e w' ⟨rfl, ⟨nd, rfl⟩⟩; first | exact ⟨rfl, _, World.drewN_drewN _ _ _⟩ | exact ⟨rfl, _, Eq.trans (World.drewN_drewN _ _ _) (congrArg (World.drewN _) (Nat.add_assoc _ _ _))⟩))
  go_wp2_with fail
  go_ret
  exact ⟨rfl, by repeat (first | exact hb0 | apply pw_below_drewN | apply below_drew1)⟩
set_option maxHeartbeats 1000000 in
set_option maxRecDepth 100000 in
theorem nodeOk_rest1 (op : Int) (A1 : Option Addr) (c1 : Nat) (l1 : List S103) (A2 : Option Addr) (c2 : Nat) (l2 : List Int) (mi ma place : Int) (w : World) (hp0 : 0 ≤ place) (hp1 : place ≤ 1000000) (hr1 : Kd.C k103 w A1 l1.length l1) (hc1 : l1.length ≤ c1) (hr2 : Kd.C (Kd.int .i64) w A2 l2.length l2) (hc2 : l2.length ≤ c2) (hk : (l2.length : Int) = kidsN op) (hany : Aside0 (l2.any (fun x => !decide (0 ≤ x ∧ x ≤ place - 1)) = false)) (h2 : (op == 2) = false) (h2' : (op != 2) = true) (he : decide (0 < l1.length) = false) (he' : decide (0 < (l1.length : Int)) = false) (h8 : (op == 8) = false) (hmi : (mi == 0) = true) :
    Calls Try.prog 119 #[.agg #[.int .i64 op, .slice A1 l1.length c1, .slice A2 l2.length c2, .int .i64 mi, .int .i64 ma], .int .i64 place] w fun e w' => e = .returned (.bool (ma == 0)) ∧ Below w.heap.size w w' := by
  obtain ⟨kk, hkk⟩ := ev_get (impl_kidsOf_ev op)
  have HK := Aside0.mk hkk
  have HR1 := Aside0.mk hr1
  have HC1 := Aside0.mk hc1
  have HR2 := Aside0.mk hr2
  have HC2 := Aside0.mk hc2
  clear hkk hr1 hc1 hr2 hc2
  generalize kidsN op = ko at HK hk
  have hb0 : Below w.heap.size w ((w.alloc (.cells #[.int .i64 op, .slice A1 l1.length c1, .slice A2 l2.length c2, .int .i64 mi, .int .i64 ma] 156)).alloc (.cells #[.int .i64 place] 2)) := below_alloc (below_alloc (Below.refl _ _) _) _
  have hne : ((l2.length : Int) != ko) = false := bne_eq_false_iff_eq.2 hk
  clear hk
  go_enter Try.func119, Try.ntmps119
  go_wp2_with fail
  go_quiet (first | (go_at_call 152; refine (impl_kidsOf.calls _ _ _ _ HK.out).mono ?_; rintro e w' ⟨rfl, ⟨nd, rfl⟩⟩; first | exact ⟨rfl, _, World.drewN_drewN _ _ _⟩ | exact ⟨rfl, _, Eq.trans (World.drewN_drewN _ _ _) (congrArg (World.drewN _) (Nat.add_assoc _ _ _))⟩) | (go_at_call 153; refine (kids_calls place (by omega) (by omega) (w.heap.size + 1) _ ?hcl _ _ l2 ?hr _ hany).mono ?_; (case hcl => (go_simp; done)); (case hr => exact Kd.C_below HR2.out (by repeat (first | exact hb0 | apply pw_below_drewN | apply below_drew1))); rintro e w' ⟨rfl, ⟨nd, rfl⟩⟩; first | exact ⟨rfl, _, World.drewN_drewN _ _ _⟩ | exact ⟨rfl, _, Eq.trans (World.drewN_drewN _ _ _) (congrArg (World.drewN _) (Nat.add_assoc _ _ _))⟩))
  go_wp2_with fail
  go_ret
  exact ⟨rfl, by repeat (first | exact hb0 | apply pw_below_drewN | apply below_drew1)⟩
end Go.Proofs.Ytijmhelacmjggaa.P
/- The walk of impl.nodeOk, all its ways together. -/
namespace Go.Proofs.Ytijmhelacmjggaa.P
open Go.RowKit Go.Shelf Go.Proofs.YtijmhelacmjggaaW.PrintWords Go.Proofs.YtijmhelacmjggaaW.PrintLast Go.Proofs.YtijmhelacmjggaaW.PrintMore Go.Proofs.YtijmhelacmjggaaEv
set_option linter.unusedVariables false
set_option linter.unusedSimpArgs false

theorem nodeOk_hand (op : Int) (A1 : Option Addr) (c1 : Nat) (l1 : List S103) (A2 : Option Addr) (c2 : Nat) (l2 : List Int) (mi ma place : Int) (w : World) (hp0 : 0 ≤ place) (hp1 : place ≤ 1000000) (hr1 : Kd.C k103 w A1 l1.length l1) (hc1 : l1.length ≤ c1) (hr2 : Kd.C (Kd.int .i64) w A2 l2.length l2) (hc2 : l2.length ≤ c2) :
    Calls Try.prog 119 #[.agg #[.int .i64 op, .slice A1 l1.length c1, .slice A2 l2.length c2, .int .i64 mi, .int .i64 ma], .int .i64 place] w fun e w' => e = .returned (.bool (nodeB op l1 l2 mi ma place)) ∧ Below w.heap.size w w' := by
  unfold nodeB
  by_cases hk : (l2.length : Int) = kidsN op
  · rw [decide_eq_true hk, Bool.true_and]
    cases hany : l2.any (fun x => !decide (0 ≤ x ∧ x ≤ place - 1)) with
    | true => simpa using nodeOk_any op A1 c1 l1 A2 c2 l2 mi ma place w hp0 hp1 hr1 hc1 hr2 hc2 hk ⟨hany⟩
    | false =>
      rw [Bool.not_false, Bool.true_and]
      have HA := Aside0.mk hany
      by_cases h2 : op = 2
      · rw [if_pos h2, if_neg (by omega)]
        obtain ⟨kc, hkc⟩ := ev_get (impl_ClassOk_ev l1 hr1.2.1)
        cases hcl : classB l1 with
        | false =>
          rw [hcl] at hkc
          simpa using nodeOk_class op A1 c1 l1 A2 c2 l2 mi ma place w hp0 hp1 hr1 hc1 hr2 hc2 hk HA (beq_iff_eq.2 h2) (bne_eq_false_iff_eq.2 h2) kc hkc
        | true =>
          rw [hcl] at hkc
          by_cases he : l1.length = 0
          · rw [decide_eq_true he]
            simpa using nodeOk_bare op A1 c1 l1 A2 c2 l2 mi ma place w hp0 hp1 hr1 hc1 hr2 hc2 hk HA (beq_iff_eq.2 h2) (bne_eq_false_iff_eq.2 h2) kc hkc (beq_iff_eq.2 (by omega))
          · rw [decide_eq_false he]
            by_cases hmi : mi = 0
            · have := nodeOk_set1 op A1 c1 l1 A2 c2 l2 mi ma place w hp0 hp1 hr1 hc1 hr2 hc2 hk HA (beq_iff_eq.2 h2) (bne_eq_false_iff_eq.2 h2) kc hkc (beq_eq_false_iff_ne.2 (by omega)) (beq_eq_false_iff_ne.2 (by omega)) (beq_iff_eq.2 hmi)
              rw [show (ma == 0) = decide (ma = 0) from rfl] at this
              simpa [hmi] using this
            · have := nodeOk_set0 op A1 c1 l1 A2 c2 l2 mi ma place w hp0 hp1 hr1 hc1 hr2 hc2 hk HA (beq_iff_eq.2 h2) (bne_eq_false_iff_eq.2 h2) kc hkc (beq_eq_false_iff_ne.2 (by omega)) (beq_eq_false_iff_ne.2 (by omega)) (beq_eq_false_iff_ne.2 hmi)
              simpa [hmi] using this
      · rw [if_neg h2]
        have e2 := beq_eq_false_iff_ne.2 h2
        have n2 := bne_iff_ne.2 h2
        by_cases he : l1.length = 0
        · rw [decide_eq_true he, Bool.true_and]
          have d1 : decide (0 < l1.length) = false := decide_eq_false (by omega)
          have d2 : decide (0 < (l1.length : Int)) = false := decide_eq_false (by omega)
          by_cases h8 : op = 8
          · rw [if_pos h8]
            exact nodeOk_times op A1 c1 l1 A2 c2 l2 mi ma place w hp0 hp1 hr1 hc1 hr2 hc2 hk HA e2 n2 d1 d2 (beq_iff_eq.2 h8) _ (impl_timesOk_eq mi ma)
          · rw [if_neg h8]
            by_cases hmi : mi = 0
            · have := nodeOk_rest1 op A1 c1 l1 A2 c2 l2 mi ma place w hp0 hp1 hr1 hc1 hr2 hc2 hk HA e2 n2 d1 d2 (beq_eq_false_iff_ne.2 h8) (beq_iff_eq.2 hmi)
              rw [show (ma == 0) = decide (ma = 0) from rfl] at this
              simpa [hmi] using this
            · have := nodeOk_rest0 op A1 c1 l1 A2 c2 l2 mi ma place w hp0 hp1 hr1 hc1 hr2 hc2 hk HA e2 n2 d1 d2 (beq_eq_false_iff_ne.2 h8) (beq_eq_false_iff_ne.2 hmi)
              simpa [hmi] using this
        · rw [decide_eq_false he]
          simpa using nodeOk_full op A1 c1 l1 A2 c2 l2 mi ma place w hp0 hp1 hr1 hc1 hr2 hc2 hk HA e2 n2 (decide_eq_true (by omega)) (decide_eq_true (by omega))
  · rw [decide_eq_false hk]
    simpa using nodeOk_kids op A1 c1 l1 A2 c2 l2 mi ma place w hp0 hp1 hr1 hc1 hr2 hc2 hk
end Go.Proofs.Ytijmhelacmjggaa.P
-- Made by wip/gen/pp.py of this session over the kit's print of the loaded program: a function, and the contract of its walk. Lean checks it.
namespace Go.Proofs.Ytijmhelacmjggaa.P
open Go.RowKit Go.Proofs.YtijmhelacmjggaaW.PrintWords Go.Proofs.YtijmhelacmjggaaW.PrintLast Go.Proofs.YtijmhelacmjggaaW.PrintMore
attribute [local go_sem] max2_int min2_int max_two min_two max_three min_three max_four min_four   -- for this text's walks alone
set_option linter.unusedVariables false
set_option linter.unusedSimpArgs false

/-! ### impl_nodeOk: function 119 -/
def impl_nodeOk.f (a0_0 : Int) (l0_1 : List (S103)) (l0_2 : List Int) (a0_3 : Int) (a0_4 : Int) (a1 : Int) : Option (Bool) := if 0 ≤ a1 ∧ a1 ≤ 1000000 then some (nodeB a0_0 l0_1 l0_2 a0_3 a0_4 a1) else none
theorem impl_nodeOk.calls (a0_0 : Int) (A0_1 : Option Addr) (c0_1 : Nat) (l0_1 : List (S103)) (A0_2 : Option Addr) (c0_2 : Nat) (l0_2 : List Int) (a0_3 : Int) (a0_4 : Int) (a1 : Int) (r : Bool) (w : World) (hr0_1 : Kd.C k103 w A0_1 l0_1.length l0_1) (hc0_1 : l0_1.length ≤ c0_1) (hr0_2 : Kd.C (Kd.int .i64) w A0_2 l0_2.length l0_2) (hc0_2 : l0_2.length ≤ c0_2) (h : impl_nodeOk.f a0_0 l0_1 l0_2 a0_3 a0_4 a1 = some r) :
    Calls Try.prog 119 #[.agg #[.int .i64 a0_0, .slice A0_1 l0_1.length c0_1, .slice A0_2 l0_2.length c0_2, .int .i64 a0_3, .int .i64 a0_4], .int .i64 a1] w fun e w' => e = .returned (.bool r) ∧ Below w.heap.size w w' := by
  unfold impl_nodeOk.f at h
  by_cases hp : 0 ≤ a1 ∧ a1 ≤ 1000000
  · rw [if_pos hp] at h
    obtain rfl := Option.some.inj h
    exact nodeOk_hand a0_0 A0_1 c0_1 l0_1 A0_2 c0_2 l0_2 a0_3 a0_4 a1 w hp.1 hp.2 hr0_1 hc0_1 hr0_2 hc0_2
  · rw [if_neg hp] at h
    exact absurd h (by simp)

end Go.Proofs.Ytijmhelacmjggaa.P
