/- The law FnMachineMeans holds for every call: part 4 of 6 of the proof (walks of functions, and what they answer). Conditions: none beyond what the given row says. -/
import Derived.Test.YtlecpdpdcocibaaMFnMachineMeans2
import Derived.Shelf.Abstract
import Derived.Lib.Hide
import Derived.Test.YtlecpdpdcocibaaMFnMachineMeans0
import Derived.Test.YtlecpdpdcocibaaMFnMachineMeans1
import Derived.Maps.RangeWalk
import Derived.Maps.OwnOps
import Derived.Maps.Views
set_option maxHeartbeats 16000000
set_option maxRecDepth 100000
namespace Go.Proofs.Ytlecpdpdcocibaa.P
open Go.RowKit Go.Shelf Go.Proofs.YtlecpdpdcocibaaW.PrintWords Go.Proofs.YtlecpdpdcocibaaW.PrintLast Go.Proofs.YtlecpdpdcocibaaW.PrintMore Go.Proofs.YtlecpdpdcocibaaEv
set_option linter.unusedVariables false
set_option linter.unusedSimpArgs false
theorem partS_hand{w0:World}{A:Option Addr}{c:Nat}{l:List S196}(hr:Kd.C k196 w0 A l.length l)(hc:l.length≤c)(hok:∀j,j<l.length→nodeAt l j=true):∀(k:Nat) (i:Int),0≤i→i<(l.length:Int)→i.toNat<k→k≤1000→PartC 134 186 w0 A c l i (partN timesS l k i):=by
 intro k
 induction k with
 |zero=>intro i _ _ h;omega
 |succ k ih=>
 intro i p0 q0 hik hk1 ok g n es en w hI hB hF hn;have hnode:=hok i.toNat (by omega);rw[←Int.toNat_of_nonneg p0]at hik;have hops:=node_ops hnode;have hkid:=node_kid hnode;rw[Int.toNat_of_nonneg p0]at hops hkid hik;have hcls:(rd_T196 l i).f1.length≤1048576:=by
  have:=node_set_few hnode;rw[Int.toNat_of_nonneg p0]at this;omega
 have htms:=fun h8:(rd_T196 l i).f0=8=>(Int.toNat_of_nonneg p0 ▸ (node_counts hnode)) h8
 have hPC:∀t:Nat,t<(rd_T196 l i).f2.length→PartC 134 186 w0 A c l (rd (rd_T196 l i).f2 (t:Int)) (partN timesS l k (rd (rd_T196 l i).f2 (t:Int))):=fun t ht=>by
  obtain⟨h1,h2⟩:=hkid t ht;exact ih _ (by omega) (by omega) (by omega) (by omega)
 have hP0:=hPC 0;have hP1:=hPC 1;simp only[Int.ofNat_zero,Int.natCast_one,Int.cast_ofNat_Int]at hP0 hP1;clear hPC hkid ih hnode;have hbp0:=partS_bn l k (rd (rd_T196 l i).f2 0);have hbp1:=partS_bn l k (rd (rd_T196 l i).f2 1);have HGW:=q_ (Bd_lt hI);have T0:J0 True:=⟨trivial⟩;have T1:J0 True:=⟨trivial⟩;have T2:J0 True:=⟨trivial⟩;have T3:J0 True:=⟨trivial⟩;rcases hf:fullB n es with _| _
 rotate_left
 ·rw[full_part timesS l (k+1) i (show fullN (n,es)=true from hf)]
  have HI:=q_ hI;have HB0:=q_ hB;have HF:=q_ hF;have ef:=hf;clear hI hB hF hn hf hops htms hP0 hP1 hbp0 hbp1 hcls p0 q0 hik hr hc hok;go_enter Try.func134,Try.ntmps134
  go_wp2_with(first
   | ((with_reducible refine gate_dst (N:=4) rfl ?_);clear T0;refine bx_ 4 #[.slice A l.length c] 67 ?_;intro g1 hg w1 hbox hb;have HW:=q_ hb;have FR:=q_ (FrB.start HI.o HB0.o hb);have FR0:=q_ (okF.free HF.o hb);clear hb hbox hg)
   | (go_at_call 144;(with_reducible refine(fullS_hand _ g _ _ en _ FR.o.st).mono ?_);rintro e w7 ⟨rfl,rfl⟩;rw[ef]))
  go_ret2
  exact⟨rfl,FR.o.fin HW.o⟩
 have hs:=Bn.small hn.1 (show fullN (n,es)=false from hf);have hs1:=hs.1;have hs2:=hs.2.1;have hs3:=hs.2.2;dsimp only at hs1 hs2 hs3;obtain⟨ad,A1,c1,A2,c2,e,hx0,hx1,hx2,hx3,hx4,hl1,hi1,hl2,hi2⟩:=at_T196 hr i p0 q0;subst e;rw[partN_succ timesS l k i (show fullN (n,es)=false from hf)];generalize hPP0:partN timesS l k (rd (rd_T196 l i).f2 0)=P0 at *;generalize hPP1:partN timesS l k (rd (rd_T196 l i).f2 1)=P1 at *;clear hPP0 hPP1;generalize rd_T196 l i=x at *;generalize hR:stepN timesS x P0 P1 (n,es)=R;have HRR:=q_ hR;clear hR;have HR:=q_ hr;have HC:=q_ hc;have HI1:=q_ hi1;have HL1:=q_ hl1;have HI2:=q_ hi2;have HX1:=q_ hcls;have HOPS:=q_ hops;have HTMS:=q_ htms;have HP0:=q_ hP0;have HP1:=q_ hP1;have HBP0:=q_ hbp0;have HBP1:=q_ hbp1;have HS:=q_ hs;have HI:=q_ hI;have HB0:=q_ hB;have HF:=q_ hF;have ef:=hf;clear hr hc hok hi1 hl1 hl2 hi2 hcls hops htms hP0 hP1 hbp0 hbp1 hs hI hB hF hf hn hik;replace p0:=eq_true p0;replace q0:=eq_true q0;go_enter Try.func134,Try.ntmps134;go_upto_region 5 with(first
  | ((with_reducible refine gate_dst (N:=4) rfl ?_);clear T0;refine bx_ 4 #[.slice (some ad) l.length c] 67 ?_;intro g1 hg w1 hbox hb;have BK1:=q_ hbox;have HW:=q_ hb;have FR:=q_ (FrB.start HI.o HB0.o hb);have G1:=q_ (Nat.le_of_eq hg.symm);have HLO:=q_ (FR.o.lo);replace hx0:=mv_ HLO.o hx0;replace hx1:=mv_ HLO.o hx1;replace hx2:=mv_ HLO.o hx2;replace hx3:=mv_ HLO.o hx3;replace hx4:=mv_ HLO.o hx4;clear hb hbox hg HLO;obtain⟨hcz,hfz⟩:=d1_ BK1)
  | (go_at_call 144;(with_reducible refine(fullS_hand _ g _ _ en _ FR.o.st).mono ?_);rintro e w7 ⟨rfl,rfl⟩;rw[ef])
  | ((with_reducible refine gate_dst (N:=8) rfl ?_);clear T1;refine bx_ 8 #[.int .i64 0, .slice none 0 0, .slice none 0 0, .int .i64 0, .int .i64 0] 196 ?_;intro g3 hg w3 hbox hb;have BK3:=q_ hbox;have G3:=ge_ hg HW;have NB:=nl_ hg BK1;replace BK1:=lb_ BK1 hb;replace HW:=sb_ HW hb;clear hb hbox hg;obtain⟨hy0,hy1,hy2,hy3,hy4,hf0,hf1,hf2,hf3,hf4⟩:=d5_ BK3))
 generalize hW_:(((((w3.setCell ⟨g3,0,none⟩ (.int .i64 x.f0)).setCell ⟨g3,1,none⟩ (.slice A1 x.f1.length c1)).setCell ⟨g3,2,none⟩ (.slice A2 x.f2.length c2)).setCell ⟨g3,3,none⟩ (.int .i64 x.f3)).setCell ⟨g3,4,none⟩ (.int .i64 x.f4))=w5;replace BK1:=bf5_ hW_ BK1 NB;replace BK3:=bp5_ hW_ BK3;replace HW:=bw5_ hW_ (be2_ HW.o G1.o G3.o);clear hW_ hx0 hx1 hx2 hx3 hx4 hcz hfz hy0 hy1 hy2 hy3 hy4 hf0 hf1 hf2 hf3 hf4 NB p0 q0 ef FR;have FR:=q_ (FrB.start HI.o HB0.o HW.o);have FR0:=q_ (okF.free HF.o HW.o);clear HI HB0 HF;rcases HOPS.o with h| ⟨h,hl⟩| ⟨h,hl⟩
 ·have hR:=HRR.o
  clear HRR;unfold stepN at hR;rw[iP h]at hR;unfold setN at hR;have HRR:=q_ hR;clear hR;clear HOPS HTMS HP0 HP1 HBP0 HBP1 HR;obtain⟨hy0,hy1,hy2,hy3,hy4,hf0,hf1,hf2,hf3,hf4⟩:=d5_ (q_ (FR.o.blk BK3.o G3.o HGW.o));obtain⟨hcz,hfz⟩:=d1_ (q_ (FR.o.blk BK1.o G1.o HGW.o));have hor:((x.f0==1)=true)∨((x.f0==1)=false∧(x.f0==2)=true):=by
   rcases h with h|h
   ·exact .inl (beq_iff_eq.mpr h)
   ·exact .inr ⟨beq_eq_false_iff_ne.mpr (by omega),beq_iff_eq.mpr h⟩
  clear h;rcases hor with e1| ⟨n1,e2⟩
  all_goals
   go_wp2_with(first
   | (go_at_call 145;clear T2;(with_reducible refine(stateS_hand _ g _ _ en _ FR.o.st FR.o.lo (by omega)).mono ?_);rintro e w7 ⟨rfl,hI,hB,hK2⟩;replace FR:=q_ (FR.o.call hI hB hK2);clear hI hB hK2;clear hy0 hy1 hy2 hy3 hy4 hf0 hf1 hf2 hf3 hf4 hcz hfz;obtain⟨hy0,hy1,hy2,hy3,hy4,hf0,hf1,hf2,hf3,hf4⟩:=d5_ (q_ (FR.o.blk BK3.o G3.o HGW.o));obtain⟨hcz,hfz⟩:=d1_ (q_ (FR.o.blk BK1.o G1.o HGW.o)))
   | (go_at_call 145;clear T3;(with_reducible refine(stateS_hand _ g _ _ en _ FR.o.st FR.o.lo (by omega)).mono ?_);rintro e w7 ⟨rfl,hI,hB,hK2⟩;replace FR:=q_ (FR.o.call hI hB hK2);clear hI hB hK2;clear hy0 hy1 hy2 hy3 hy4 hf0 hf1 hf2 hf3 hf4 hcz hfz;obtain⟨hy0,hy1,hy2,hy3,hy4,hf0,hf1,hf2,hf3,hf4⟩:=d5_ (q_ (FR.o.blk BK3.o G3.o HGW.o));obtain⟨hcz,hfz⟩:=d1_ (q_ (FR.o.blk BK1.o G1.o HGW.o)))
   | (go_at_call 135;refine(edgeS_hand _ g _ _ _ _ en A1 c1 x.f1 _ FR.o.st FR.o.lo (FR.o.fr FR0.o) (Kd.C_below HI1.o FR.o.lo) HL1.o HX1.o (by first|omega| (simp;omega))).mono ?_;rintro e w7 ⟨rfl,hI,hB,hK2⟩;replace FR:=q_ (FR.o.call hI hB hK2);clear hI hB hK2))
   go_ret2
   have h2:n+1+1=n+2:=by omega
   rw[h2]at FR;rw[←HRR.o];exact⟨rfl,FR.o.fin HW.o⟩
 ·have hR:=HRR.o
  clear HRR;unfold stepN at hR;rw[iN (by omega)]at hR;rcases h with h|h
  ·rw[iP h]at hR
   unfold catN at hR;have hlen:=hl;obtain⟨ad2,e,hk0⟩:=Kd.at_int HI2.o 0 (by omega) (by omega);subst e;rw[show(0:Int).toNat=0 from rfl,Addr.add_zero']at hk0;have HK0:=q_ hk0;clear hk0;have q2:(0<x.f2.length)=True:=eq_true (by omega);have q:=(eq_true (by omega:0<(x.f2.length:Int)):(0<(x.f2.length:Int))=True);have z0:(0≤(0:Int))=True:=eq_true (by omega);obtain⟨ad3,e,hk1⟩:=Kd.at_int HI2.o 1 (by omega) (by omega);obtain rfl:ad2=ad3:=by injection e
   clear e;simp only[show(1:Int).toNat=1 from rfl,Go.Addr.add,Nat.reduceMul,Nat.reduceEqDiff, ↓reduceIte]at hk1;have HK1:=q_ hk1;clear hk1;have q3:(1<x.f2.length)=True:=eq_true (by omega);have qq:=(eq_true (by omega:1<(x.f2.length:Int)):(1<(x.f2.length:Int))=True);have z1:(0≤(1:Int))=True:=eq_true (by omega);have hbn:=(HBP0.o 0 (n,es) HS.o).le (show max 0 (16*k)≤60000 by omega);obtain⟨⟨a,z,n2,es2⟩,hq⟩:∃q,q=P0 (n,es):=⟨_,rfl⟩;rw[←hq]at hbn hR;dsimp only at hbn hR;have hb4:=hbn.1;have hb5:=hbn.2.1;have hb6:=hbn.2.2;dsimp only at hb4 hb5 hb6;have HQ0:=q_ hq;have HN0:=q_ (HS.o.le (show 0≤60000 by omega));have HN1:=q_ hbn;have HPC0:=q_ (HP0.o (by omega));clear hbn hq;have hbn:=(HBP1.o (16*k) (n2,es2) (by have h:=(HBP0.o 0 (n,es) HS.o).le (show max 0 (16*k)≤16*k by omega);rw[←HQ0.o]at h;exact h)).le (show max (16*k) (16*k)≤60000 by omega);obtain⟨⟨b,y,n3,es3⟩,hq⟩:∃q,q=P1 (n2,es2):=⟨_,rfl⟩;rw[←hq]at hbn hR;dsimp only at hbn hR;have hb7:=hbn.1;have hb8:=hbn.2.1;have hb9:=hbn.2.2;dsimp only at hb7 hb8 hb9;have HRR:=q_ hR;clear hR;have HQ1:=q_ hq;have HPC1:=q_ (HP1.o (by omega));clear hbn hq;have e3:(x.f0==3)=true:=beq_iff_eq.mpr h;have ne1:(x.f0==1)=false:=beq_eq_false_iff_ne.mpr (by omega);have ne2:(x.f0==2)=false:=beq_eq_false_iff_ne.mpr (by omega);have ne8:(x.f0==8)=false:=beq_eq_false_iff_ne.mpr (by omega);clear h HOPS HTMS HP0 HP1 HBP0 HBP1 HR HI2;obtain⟨hy0,hy1,hy2,hy3,hy4,hf0,hf1,hf2,hf3,hf4⟩:=d5_ (q_ (FR.o.blk BK3.o G3.o HGW.o));obtain⟨hcz,hfz⟩:=d1_ (q_ (FR.o.blk BK1.o G1.o HGW.o));go_wp2;clear hy0 hy1 hy2 hy3 hy4 hf0 hf1 hf2 hf3 hf4 hcz hfz;replace FR:=q_ FR.o.drew;refine start_ (n:=12) (S:=fun w'=>w'.cell? ⟨g1,0,none⟩=some (.slice (some ad) l.length c)∧w'.cell? ⟨g3,2,none⟩=some (.slice (some ad2) x.f2.length c2)∧w'.cell? ad2=some (.int .i64 (rd x.f2 0))) (ds:=[]) (bb 12 0) (by kernel_rfl) rfl rfl ⟨(blk_cell (FR.o.blk BK1.o G1.o HGW.o) 0).trans rfl,(blk_cell (FR.o.blk BK3.o G3.o HGW.o) 2).trans rfl,mv_ FR.o.lo HK0.o⟩ (fun hS=>?_);generalize World.drew _=wd at FR hS ⊢;refine pk_ 0 52 1 ?_;refine pk_ 2 54 5 ?_;refine tk_ 1 53 7 hS ?_;refine tk_ 3 55 15 hS ?_;refine pk_ 4 56 31 ?_;refine tk_ 5 57 63 hS ?_;refine one_ (i:=6) (N:=some 58) (bb 12 127) rfl rfl (by kernel_rfl) (by decide) (fun K hK=>?_);refine gs_ Try.func134 #[.pointer (some ⟨g,0,none⟩), .agg #[.slice (some ad) l.length c], .int .i64 (rd x.f2 0)] ?_;(with_reducible refine(HPC0.o.at HQ0.o HN0.o FR.o.st FR.o.lo (FR.o.fr FR0.o)).mono ?_);rintro e w7 ⟨rfl,hI,hB,hK2⟩;refine⟨_,rfl,?_⟩;replace FR:=q_ (FR.o.call hI hB hK2);clear hI hB hK2;refine hK.out _ _ ⟨(blk_cell (FR.o.blk BK1.o G1.o HGW.o) 0).trans rfl,(blk_cell (FR.o.blk BK3.o G3.o HGW.o) 2).trans rfl,mv_ FR.o.lo HK0.o⟩ (fun hS=>?_);clear hK K;refine no_ (some 58) ?_;refine pk_ 7 51 255 ?_;refine pk_ 8 59 511 ?_;refine pk_ 9 60 1023 ?_;refine pk_ 10 11 2047 ?_;refine pk_ 11 12 4095 ?_;refine done_ (by kernel_rfl) ?_;clear hS;obtain⟨hy0,hy1,hy2,hy3,hy4,hf0,hf1,hf2,hf3,hf4⟩:=d5_ (q_ (FR.o.blk BK3.o G3.o HGW.o));obtain⟨hcz,hfz⟩:=d1_ (q_ (FR.o.blk BK1.o G1.o HGW.o));go_wp2;clear hy0 hy1 hy2 hy3 hy4 hf0 hf1 hf2 hf3 hf4 hcz hfz;replace FR:=q_ FR.o.drew;refine start_ (n:=12) (S:=fun w'=>w'.cell? ⟨g1,0,none⟩=some (.slice (some ad) l.length c)∧w'.cell? ⟨g3,2,none⟩=some (.slice (some ad2) x.f2.length c2)∧w'.cell? ⟨ad2.block,ad2.off+1,none⟩=some (.int .i64 (rd x.f2 1))) (ds:=[]) (bb 12 0) (by kernel_rfl) rfl rfl ⟨(blk_cell (FR.o.blk BK1.o G1.o HGW.o) 0).trans rfl,(blk_cell (FR.o.blk BK3.o G3.o HGW.o) 2).trans rfl,mv_ FR.o.lo HK1.o⟩ (fun hS=>?_);generalize World.drew _=wd at FR hS ⊢;refine pk_ 0 66 1 ?_;refine pk_ 2 68 5 ?_;refine tk_ 1 67 7 hS ?_;refine tk_ 3 69 15 hS ?_;refine pk_ 4 70 31 ?_;refine tk_ 5 71 63 hS ?_;refine one_ (i:=6) (N:=some 72) (bb 12 127) rfl rfl (by kernel_rfl) (by decide) (fun K hK=>?_);refine gs_ Try.func134 #[.pointer (some ⟨g,0,none⟩), .agg #[.slice (some ad) l.length c], .int .i64 (rd x.f2 1)] ?_;(with_reducible refine(HPC1.o.at HQ1.o HN1.o FR.o.st FR.o.lo (FR.o.fr FR0.o)).mono ?_);rintro e w7 ⟨rfl,hI,hB,hK2⟩;refine⟨_,rfl,?_⟩;replace FR:=q_ (FR.o.call hI hB hK2);clear hI hB hK2;refine hK.out _ _ ⟨(blk_cell (FR.o.blk BK1.o G1.o HGW.o) 0).trans rfl,(blk_cell (FR.o.blk BK3.o G3.o HGW.o) 2).trans rfl,mv_ FR.o.lo HK1.o⟩ (fun hS=>?_);clear hK K;refine no_ (some 72) ?_;refine pk_ 7 65 255 ?_;refine pk_ 8 73 511 ?_;refine pk_ 9 74 1023 ?_;refine pk_ 10 13 2047 ?_;refine pk_ 11 14 4095 ?_;refine done_ (by kernel_rfl) ?_;clear hS
   go_wp2_with(first
   | (go_at_call 135;refine(edgeS_hand _ g _ _ _ _ en none 0 [] _ FR.o.st FR.o.lo (FR.o.fr FR0.o) (Kd.C_nil _ _) (Nat.le_refl _) (by simp) (by first|omega| (simp;omega))).mono ?_;rintro e w7 ⟨rfl,hI,hB,hK2⟩;replace FR:=q_ (FR.o.call hI hB hK2);clear hI hB hK2))
   go_ret2
   rw[←HRR.o];exact⟨rfl,FR.o.fin HW.o⟩
  ·rw[iN (by omega),iP h]at hR
   unfold altN at hR;have hlen:=hl;obtain⟨ad2,e,hk0⟩:=Kd.at_int HI2.o 0 (by omega) (by omega);subst e;rw[show(0:Int).toNat=0 from rfl,Addr.add_zero']at hk0;have HK0:=q_ hk0;clear hk0;have q2:(0<x.f2.length)=True:=eq_true (by omega);have q:=(eq_true (by omega:0<(x.f2.length:Int)):(0<(x.f2.length:Int))=True);have z0:(0≤(0:Int))=True:=eq_true (by omega);obtain⟨ad3,e,hk1⟩:=Kd.at_int HI2.o 1 (by omega) (by omega);obtain rfl:ad2=ad3:=by injection e
   clear e;simp only[show(1:Int).toNat=1 from rfl,Go.Addr.add,Nat.reduceMul,Nat.reduceEqDiff, ↓reduceIte]at hk1;have HK1:=q_ hk1;clear hk1;have q3:(1<x.f2.length)=True:=eq_true (by omega);have qq:=(eq_true (by omega:1<(x.f2.length:Int)):(1<(x.f2.length:Int))=True);have z1:(0≤(1:Int))=True:=eq_true (by omega);have hbn:=(HBP0.o 0 (n,es) HS.o).le (show max 0 (16*k)≤60000 by omega);obtain⟨⟨a,z,n2,es2⟩,hq⟩:∃q,q=P0 (n,es):=⟨_,rfl⟩;rw[←hq]at hbn hR;dsimp only at hbn hR;have hb4:=hbn.1;have hb5:=hbn.2.1;have hb6:=hbn.2.2;dsimp only at hb4 hb5 hb6;have HQ0:=q_ hq;have HN0:=q_ (HS.o.le (show 0≤60000 by omega));have HN1:=q_ hbn;have HPC0:=q_ (HP0.o (by omega));clear hbn hq;have hbn:=(HBP1.o (16*k) (n2,es2) (by have h:=(HBP0.o 0 (n,es) HS.o).le (show max 0 (16*k)≤16*k by omega);rw[←HQ0.o]at h;exact h)).le (show max (16*k) (16*k)≤60000 by omega);obtain⟨⟨b,y,n3,es3⟩,hq⟩:∃q,q=P1 (n2,es2):=⟨_,rfl⟩;rw[←hq]at hbn hR;dsimp only at hbn hR;have hb7:=hbn.1;have hb8:=hbn.2.1;have hb9:=hbn.2.2;dsimp only at hb7 hb8 hb9;have HRR:=q_ hR;clear hR;have HQ1:=q_ hq;have HPC1:=q_ (HP1.o (by omega));clear hbn hq;have e4:(x.f0==4)=true:=beq_iff_eq.mpr h;have ne1:(x.f0==1)=false:=beq_eq_false_iff_ne.mpr (by omega);have ne2:(x.f0==2)=false:=beq_eq_false_iff_ne.mpr (by omega);have ne8:(x.f0==8)=false:=beq_eq_false_iff_ne.mpr (by omega);have ne3:(x.f0==3)=false:=beq_eq_false_iff_ne.mpr (by omega);clear h HOPS HTMS HP0 HP1 HBP0 HBP1 HR HI2;obtain⟨hy0,hy1,hy2,hy3,hy4,hf0,hf1,hf2,hf3,hf4⟩:=d5_ (q_ (FR.o.blk BK3.o G3.o HGW.o));obtain⟨hcz,hfz⟩:=d1_ (q_ (FR.o.blk BK1.o G1.o HGW.o));go_wp2;clear hy0 hy1 hy2 hy3 hy4 hf0 hf1 hf2 hf3 hf4 hcz hfz;replace FR:=q_ FR.o.drew;refine start_ (n:=12) (S:=fun w'=>w'.cell? ⟨g1,0,none⟩=some (.slice (some ad) l.length c)∧w'.cell? ⟨g3,2,none⟩=some (.slice (some ad2) x.f2.length c2)∧w'.cell? ad2=some (.int .i64 (rd x.f2 0))) (ds:=[]) (bb 12 0) (by kernel_rfl) rfl rfl ⟨(blk_cell (FR.o.blk BK1.o G1.o HGW.o) 0).trans rfl,(blk_cell (FR.o.blk BK3.o G3.o HGW.o) 2).trans rfl,mv_ FR.o.lo HK0.o⟩ (fun hS=>?_);generalize World.drew _=wd at FR hS ⊢;refine pk_ 0 52 1 ?_;refine pk_ 2 54 5 ?_;refine tk_ 1 53 7 hS ?_;refine tk_ 3 55 15 hS ?_;refine pk_ 4 56 31 ?_;refine tk_ 5 57 63 hS ?_;refine one_ (i:=6) (N:=some 58) (bb 12 127) rfl rfl (by kernel_rfl) (by decide) (fun K hK=>?_);refine gs_ Try.func134 #[.pointer (some ⟨g,0,none⟩), .agg #[.slice (some ad) l.length c], .int .i64 (rd x.f2 0)] ?_;(with_reducible refine(HPC0.o.at HQ0.o HN0.o FR.o.st FR.o.lo (FR.o.fr FR0.o)).mono ?_);rintro e w7 ⟨rfl,hI,hB,hK2⟩;refine⟨_,rfl,?_⟩;replace FR:=q_ (FR.o.call hI hB hK2);clear hI hB hK2;refine hK.out _ _ ⟨(blk_cell (FR.o.blk BK1.o G1.o HGW.o) 0).trans rfl,(blk_cell (FR.o.blk BK3.o G3.o HGW.o) 2).trans rfl,mv_ FR.o.lo HK0.o⟩ (fun hS=>?_);clear hK K;refine no_ (some 58) ?_;refine pk_ 7 51 255 ?_;refine pk_ 8 59 511 ?_;refine pk_ 9 60 1023 ?_;refine pk_ 10 11 2047 ?_;refine pk_ 11 12 4095 ?_;refine done_ (by kernel_rfl) ?_;clear hS;obtain⟨hy0,hy1,hy2,hy3,hy4,hf0,hf1,hf2,hf3,hf4⟩:=d5_ (q_ (FR.o.blk BK3.o G3.o HGW.o));obtain⟨hcz,hfz⟩:=d1_ (q_ (FR.o.blk BK1.o G1.o HGW.o));go_wp2;clear hy0 hy1 hy2 hy3 hy4 hf0 hf1 hf2 hf3 hf4 hcz hfz;replace FR:=q_ FR.o.drew;refine start_ (n:=12) (S:=fun w'=>w'.cell? ⟨g1,0,none⟩=some (.slice (some ad) l.length c)∧w'.cell? ⟨g3,2,none⟩=some (.slice (some ad2) x.f2.length c2)∧w'.cell? ⟨ad2.block,ad2.off+1,none⟩=some (.int .i64 (rd x.f2 1))) (ds:=[]) (bb 12 0) (by kernel_rfl) rfl rfl ⟨(blk_cell (FR.o.blk BK1.o G1.o HGW.o) 0).trans rfl,(blk_cell (FR.o.blk BK3.o G3.o HGW.o) 2).trans rfl,mv_ FR.o.lo HK1.o⟩ (fun hS=>?_);generalize World.drew _=wd at FR hS ⊢;refine pk_ 0 84 1 ?_;refine pk_ 2 86 5 ?_;refine tk_ 1 85 7 hS ?_;refine tk_ 3 87 15 hS ?_;refine pk_ 4 88 31 ?_;refine tk_ 5 89 63 hS ?_;refine one_ (i:=6) (N:=some 90) (bb 12 127) rfl rfl (by kernel_rfl) (by decide) (fun K hK=>?_);refine gs_ Try.func134 #[.pointer (some ⟨g,0,none⟩), .agg #[.slice (some ad) l.length c], .int .i64 (rd x.f2 1)] ?_;(with_reducible refine(HPC1.o.at HQ1.o HN1.o FR.o.st FR.o.lo (FR.o.fr FR0.o)).mono ?_);rintro e w7 ⟨rfl,hI,hB,hK2⟩;refine⟨_,rfl,?_⟩;replace FR:=q_ (FR.o.call hI hB hK2);clear hI hB hK2;refine hK.out _ _ ⟨(blk_cell (FR.o.blk BK1.o G1.o HGW.o) 0).trans rfl,(blk_cell (FR.o.blk BK3.o G3.o HGW.o) 2).trans rfl,mv_ FR.o.lo HK1.o⟩ (fun hS=>?_);clear hK K;refine no_ (some 90) ?_;refine pk_ 7 83 255 ?_;refine pk_ 8 91 511 ?_;refine pk_ 9 92 1023 ?_;refine pk_ 10 15 2047 ?_;refine pk_ 11 16 4095 ?_;refine done_ (by kernel_rfl) ?_;clear hS
   go_wp2_with(first
   | (go_at_call 145;clear T2;(with_reducible refine(stateS_hand _ g _ _ en _ FR.o.st FR.o.lo (by omega)).mono ?_);rintro e w7 ⟨rfl,hI,hB,hK2⟩;replace FR:=q_ (FR.o.call hI hB hK2);clear hI hB hK2)
   | (go_at_call 145;clear T3;(with_reducible refine(stateS_hand _ g _ _ en _ FR.o.st FR.o.lo (by omega)).mono ?_);rintro e w7 ⟨rfl,hI,hB,hK2⟩;replace FR:=q_ (FR.o.call hI hB hK2);clear hI hB hK2)
   | (go_at_call 135;refine(edgeS_hand _ g _ _ _ _ en none 0 [] _ FR.o.st FR.o.lo (FR.o.fr FR0.o) (Kd.C_nil _ _) (Nat.le_refl _) (by simp) (by first|omega| (simp;omega))).mono ?_;rintro e w7 ⟨rfl,hI,hB,hK2⟩;replace FR:=q_ (FR.o.call hI hB hK2);clear hI hB hK2))
   go_ret2
   have h2:n3+1+1=n3+2:=by omega
   rw[h2]at FR;rw[←HRR.o];exact⟨rfl,FR.o.fin HW.o⟩
 ·have hR:=HRR.o
  clear HRR;unfold stepN at hR;rw[iN (by omega),iN (by omega),iN (by omega)]at hR;by_cases h8:x.f0=8
  ·rw[iP h8]at hR
   have HRR:=q_ hR;clear hR;have hlen:=hl;obtain⟨ad2,e,hk0⟩:=Kd.at_int HI2.o 0 (by omega) (by omega);subst e;rw[show(0:Int).toNat=0 from rfl,Addr.add_zero']at hk0;have HK0:=q_ hk0;clear hk0;have q2:(0<x.f2.length)=True:=eq_true (by omega);have q:=(eq_true (by omega:0<(x.f2.length:Int)):(0<(x.f2.length:Int))=True);have z0:(0≤(0:Int))=True:=eq_true (by omega);have ht:=HTMS.o h8;have hxl:0<x.f2.length:=by omega
   have hx34: -1≤x.f4∧x.f4≤30:=by omega
   have hx33:0≤x.f3∧x.f3≤30:=⟨ht.1,ht.2.1⟩;clear ht;have HXL:=q_ hxl;have HX33:=q_ hx33;have HX34:=q_ hx34;clear hxl hx33 hx34;have HPC0:=q_ (HP0.o (by omega));have h:=h8;have e8:(x.f0==8)=true:=beq_iff_eq.mpr h;have ne1:(x.f0==1)=false:=beq_eq_false_iff_ne.mpr (by omega);have ne2:(x.f0==2)=false:=beq_eq_false_iff_ne.mpr (by omega);clear h h8 hlen hl HOPS HTMS HP0 HP1 HBP1 HR HI2;obtain⟨hy0,hy1,hy2,hy3,hy4,hf0,hf1,hf2,hf3,hf4⟩:=d5_ (q_ (FR.o.blk BK3.o G3.o HGW.o));obtain⟨hcz,hfz⟩:=d1_ (q_ (FR.o.blk BK1.o G1.o HGW.o))
   go_wp2_with(first
   | (go_at_call 146;(with_reducible refine(timesS_hand HPC0.o HBP0.o (by omega) _ g n es en x A1 c1 ad2 c2 _ FR.o.st FR.o.lo (FR.o.fr FR0.o) HS.o HK0.o HXL.o HX33.o HX34.o).mono ?_);rintro e w7 ⟨rfl,hI,hB,hK2⟩;replace FR:=q_ (FR.o.call hI hB hK2);clear hI hB hK2))
   go_ret2
   rw[←HRR.o];exact⟨rfl,FR.o.fin HW.o⟩
  ·rw[iN h8]at hR
   have hlen:=hl;obtain⟨ad2,e,hk0⟩:=Kd.at_int HI2.o 0 (by omega) (by omega);subst e;rw[show(0:Int).toNat=0 from rfl,Addr.add_zero']at hk0;have HK0:=q_ hk0;clear hk0;have q2:(0<x.f2.length)=True:=eq_true (by omega);have q:=(eq_true (by omega:0<(x.f2.length:Int)):(0<(x.f2.length:Int))=True);have z0:(0≤(0:Int))=True:=eq_true (by omega);have hbn:=(HBP0.o 0 (n,es) HS.o).le (show max 0 (16*k)≤60000 by omega);obtain⟨⟨a,z,n2,es2⟩,hq⟩:∃q,q=P0 (n,es):=⟨_,rfl⟩;rw[←hq]at hbn hR;dsimp only at hbn hR;have hb4:=hbn.1;have hb5:=hbn.2.1;have hb6:=hbn.2.2;dsimp only at hb4 hb5 hb6;have HQ0:=q_ hq;have HN0:=q_ (HS.o.le (show 0≤60000 by omega));have HN1:=q_ hbn;have HPC0:=q_ (HP0.o (by omega));clear hbn hq;have HRR:=q_ hR;clear hR;have ne1:(x.f0==1)=false:=beq_eq_false_iff_ne.mpr (by omega);have ne2:(x.f0==2)=false:=beq_eq_false_iff_ne.mpr (by omega);have ne8:(x.f0==8)=false:=beq_eq_false_iff_ne.mpr (by omega);have ne3:(x.f0==3)=false:=beq_eq_false_iff_ne.mpr (by omega);have ne4:(x.f0==4)=false:=beq_eq_false_iff_ne.mpr (by omega);clear h h8 HOPS HTMS HP0 HP1 HBP0 HBP1 HR HI2;obtain⟨hy0,hy1,hy2,hy3,hy4,hf0,hf1,hf2,hf3,hf4⟩:=d5_ (q_ (FR.o.blk BK3.o G3.o HGW.o));obtain⟨hcz,hfz⟩:=d1_ (q_ (FR.o.blk BK1.o G1.o HGW.o));go_wp2;clear hy0 hy1 hy2 hy3 hy4 hf0 hf1 hf2 hf3 hf4 hcz hfz;replace FR:=q_ FR.o.drew;refine start_ (n:=12) (S:=fun w'=>w'.cell? ⟨g1,0,none⟩=some (.slice (some ad) l.length c)∧w'.cell? ⟨g3,2,none⟩=some (.slice (some ad2) x.f2.length c2)∧w'.cell? ad2=some (.int .i64 (rd x.f2 0))) (ds:=[]) (bb 12 0) (by kernel_rfl) rfl rfl ⟨(blk_cell (FR.o.blk BK1.o G1.o HGW.o) 0).trans rfl,(blk_cell (FR.o.blk BK3.o G3.o HGW.o) 2).trans rfl,mv_ FR.o.lo HK0.o⟩ (fun hS=>?_);generalize World.drew _=wd at FR hS ⊢;refine pk_ 0 52 1 ?_;refine pk_ 2 54 5 ?_;refine tk_ 1 53 7 hS ?_;refine tk_ 3 55 15 hS ?_;refine pk_ 4 56 31 ?_;refine tk_ 5 57 63 hS ?_;refine one_ (i:=6) (N:=some 58) (bb 12 127) rfl rfl (by kernel_rfl) (by decide) (fun K hK=>?_);refine gs_ Try.func134 #[.pointer (some ⟨g,0,none⟩), .agg #[.slice (some ad) l.length c], .int .i64 (rd x.f2 0)] ?_;(with_reducible refine(HPC0.o.at HQ0.o HN0.o FR.o.st FR.o.lo (FR.o.fr FR0.o)).mono ?_);rintro e w7 ⟨rfl,hI,hB,hK2⟩;refine⟨_,rfl,?_⟩;replace FR:=q_ (FR.o.call hI hB hK2);clear hI hB hK2;refine hK.out _ _ ⟨(blk_cell (FR.o.blk BK1.o G1.o HGW.o) 0).trans rfl,(blk_cell (FR.o.blk BK3.o G3.o HGW.o) 2).trans rfl,mv_ FR.o.lo HK0.o⟩ (fun hS=>?_);clear hK K;refine no_ (some 58) ?_;refine pk_ 7 51 255 ?_;refine pk_ 8 59 511 ?_;refine pk_ 9 60 1023 ?_;refine pk_ 10 11 2047 ?_;refine pk_ 11 12 4095 ?_;refine done_ (by kernel_rfl) ?_;clear hS;obtain⟨hy0,hy1,hy2,hy3,hy4,hf0,hf1,hf2,hf3,hf4⟩:=d5_ (q_ (FR.o.blk BK3.o G3.o HGW.o));obtain⟨hcz,hfz⟩:=d1_ (q_ (FR.o.blk BK1.o G1.o HGW.o))
   go_wp2_with(first
   | (go_at_call 147;(with_reducible refine(loopS_hand _ g _ _ _ _ _ en _ FR.o.st FR.o.lo (FR.o.fr FR0.o) (by omega) (by omega)).mono ?_);rintro e w7 ⟨rfl,hI,hB,hK2⟩;replace FR:=q_ (FR.o.call hI hB hK2);clear hI hB hK2))
   go_ret2
   rw[←HRR.o];exact⟨rfl,FR.o.fin HW.o⟩
section
variable {w W:World} {gr t:Nat} {x0 x1 x2 a b c:Value}
theorem fin3_(BR:W.heap[gr]? =some (.cells #[x0,x1,x2] t (0,0))):(((W.setCell ⟨gr,0,none⟩ a).setCell ⟨gr,1,none⟩ b).setCell ⟨gr,2,none⟩ c).heap[gr]? =some (.cells #[a,b,c] t (0,0)):=blk_put (cs:=#[a,b,x2]) (blk_put (cs:=#[a,x1,x2]) (blk_put (cs:=#[x0,x1,x2]) BR 0 _ rfl) 1 _ rfl) 2 _ rfl
theorem fin3R_{α:Type}{d:Kd α}{T base:Nat}{v:Value}{xs:List α}{ok:Nat→Prop}(h:Kd.R d T W base ok v xs)(hf:∀k,ok k→k≠gr):Kd.R d T (((W.setCell ⟨gr,0,none⟩ a).setCell ⟨gr,1,none⟩ b).setCell ⟨gr,2,none⟩ c) base (fun _=>True) v xs:=Kd.R_mono (Kd.R_far (p:=⟨gr,2,none⟩) (Kd.R_far (p:=⟨gr,1,none⟩) (Kd.R_far (p:=⟨gr,0,none⟩) h hf a) hf b) hf c) (fun _ _=>trivial)
theorem fin3S_{α:Type}{d:Kd α}{T base:Nat}{v:Value}{xs:List α}{ok:Nat→Prop}(h:Kd.S d T W base ok v xs)(hf:∀k,ok k→k≠gr):Kd.S d T (((W.setCell ⟨gr,0,none⟩ a).setCell ⟨gr,1,none⟩ b).setCell ⟨gr,2,none⟩ c) base (fun _=>True) v xs:=Kd.S_mono (Kd.S_far (p:=⟨gr,2,none⟩) (Kd.S_far (p:=⟨gr,1,none⟩) (Kd.S_far (p:=⟨gr,0,none⟩) h hf a) hf b) hf c) (fun _ _=>trivial)
theorem finO_{g2 t2:Nat}{y0 y1 y2:Value}(BR:W.heap[g2]? =some (.cells #[y0,y1,y2] t2 (0,0)))(hn:g2≠gr):(((W.setCell ⟨gr,0,none⟩ a).setCell ⟨gr,1,none⟩ b).setCell ⟨gr,2,none⟩ c).heap[g2]? =some (.cells #[y0,y1,y2] t2 (0,0)):=blk_far (blk_far (blk_far BR hn _) hn _) hn _
theorem finB_(h:Below w.heap.size w W)(hg:w.heap.size≤gr):Below w.heap.size w (((W.setCell ⟨gr,0,none⟩ a).setCell ⟨gr,1,none⟩ b).setCell ⟨gr,2,none⟩ c):=below_set (below_set (below_set h hg) hg) hg
end
theorem grown_keep{α:Type}{d:Kd α}{T base g:Nat}{W:World}{v:Value}{xs:List α}{ok:Nat→Prop}{w2:World}(h:Kd.R d T W base ok v xs)(hg:W.grownBy w2 v.ownBlock):KeepB W w2 ok g:=⟨hg.size,fun k hk _ hko=>hg.block k hk (fun e=>hko (h.1 k e.symm))⟩
end Go.Proofs.Ytlecpdpdcocibaa.P
namespace Go.Proofs.Ytlecpdpdcocibaa.P
open Go.RowKit Go.Proofs.YtlecpdpdcocibaaW.PrintWords Go.Proofs.YtlecpdpdcocibaaW.PrintLast Go.Proofs.YtlecpdpdcocibaaW.PrintMore Go.Proofs.YtlecpdpdcocibaaEv
set_option linter.unusedVariables false
set_option linter.unusedSimpArgs false
abbrev NE:=NB × List S138
abbrev TM:=(NB→NR)→Int→Int→NB→NR
def xN(tm:TM)(x:S67)(s:NB):NR:=partN tm x.f0 x.f0.length ((x.f0.length:Int)-1) s
def addN(tm:TM)(x:S67)(i:Int)(q:NE):NE:=(edgeN (xN tm x q.1).2.2 0 (xN tm x q.1).1 [],q.2++ [⟨(xN tm x q.1).2.1,i⟩])
def upN(tm:TM)(l:List S67):Nat→NE
 |0=>((1,[]),[])
 |k+1=>addN tm (rd_T67 l (k:Int)) (k:Int) (upN tm l k)
theorem upN_ends(tm:TM)(l:List S67):∀k,(upN tm l k).2.length=k
 |0=>rfl
 | k+1=>by
   show((upN tm l k).2++ [_]).length=_
   rw[List.length_append,upN_ends tm l k];rfl
def rxN(x:S67):Prop:=1≤x.f0.length∧x.f0.length≤1000∧∀j,j<x.f0.length→nodeAt x.f0 j=true
theorem upN_bn(tm:TM)(htm:∀(C:Nat) (P:NB→NR),BnP C P→∀(mn mx:Int) (s:NB),Bn 0 s→Bn (C+8) (tm P mn mx s).2.2)(l:List S67)(hx:∀x∈l,rxN x):∀k,k≤l.length→Bn (16000+k) (upN tm l k).1
 |0,_=>⟨by show(0:Int)≤1;omega,by show(1:Int)≤_;omega,by show 0≤_;omega⟩
 | k + 1,h=>by
   have hb:=upN_bn tm htm l hx k (by omega);have hm:rd_T67 l (k:Int)∈l:=by
     unfold rd_T67;rw[List.getD_eq_getElem?_getD,List.getElem?_eq_getElem (show(k:Int).toNat<l.length by omega)];exact List.getElem_mem _
   have h2:=(hx _ hm).2.1;have:=part_bn tm htm (rd_T67 l (k:Int)).f0 (rd_T67 l (k:Int)).f0.length (((rd_T67 l (k:Int)).f0.length:Int)-1) (16000+k) _ hb;exact((this.le (show max (16000+k) (16*(rd_T67 l (k:Int)).f0.length)≤16000+k by omega)).edge 0 _ []).le (by omega)
theorem upNS_bn(l:List S67)(hx:∀x∈l,rxN x)(k:Nat)(hk:k≤l.length):Bn (16000+k) (upN timesS l k).1:=upN_bn timesS (fun _ _ hP mn mx s h=>timesS_bn hP mn mx s h) l hx k hk
def okRxs(l:List S67):Bool:=decide (1≤(l.length:Int)∧(l.length:Int)≤40)&&l.all fun x=>rxB x.f0
def nfaP(q:NE):NE × Bool:=if fullN q.1=true then(((0,[]),[]),false)else(q,true)
def nfaA(l:List S67):NE × Bool:=if okRxs l=true then nfaP (upN timesI l l.length)else(((0,[]),[]),false)
end Go.Proofs.Ytlecpdpdcocibaa.P
namespace Go.Proofs.Ytlecpdpdcocibaa.P
open Go.RowKit Go.Shelf Go.Proofs.YtlecpdpdcocibaaW.PrintWords Go.Proofs.YtlecpdpdcocibaaW.PrintLast Go.Proofs.YtlecpdpdcocibaaW.PrintMore Go.Proofs.YtlecpdpdcocibaaEv
set_option linter.unusedVariables false
set_option linter.unusedSimpArgs false
theorem BuildNfaS_hand(A:Option Addr)(c:Nat)(l:List S67)(w:World)(hr:Kd.C k67 w A l.length l)(hc:l.length≤c)(k:Nat)(hl:∀x∈l,spec_RxOk.f k x.f0=some (rxB x.f0))(N:NE)(b:Bool)(h0:okRxs l=false→N=((0,[]),[])∧b=false)(h1:okRxs l=true→∃b2,spec_NfaOk.f k (upN timesS l l.length).1.1 (upN timesS l l.length).1.2 (upN timesS l l.length).2=some b2∧(b2=false→N=((0,[]),[])∧b=false)∧(b2=true→N=upN timesS l l.length∧b=true)):
    Calls Try.prog 113 #[.slice A l.length c] w fun e w'=>∃v0 v1,e= .returned (.tuple #[.agg #[.int .i64 N.1.1,v0,v1], .bool b])∧Kd.S k116 116 w' w.heap.size (fun _=>True) v0 N.1.2∧Kd.R k138 138 w' w.heap.size (fun _=>True) v1 N.2∧Below w.heap.size w w':=by
  have HR:=q_ hr;have HC:=q_ hc;have HL:=q_ hl;have HB:=q_ (Below.refl w.heap.size w);have T0:J0 True:=⟨trivial⟩;have T1:J0 True:=⟨trivial⟩;have T2:J0 True:=⟨trivial⟩;have H0:=q_ h0;have H1:=q_ h1;have hn:=hr.2.1;clear hr hc hl h0 h1;go_enter Try.func113,Try.ntmps113;go_upto_region 2 with(first
   | ((with_reducible refine gate_dst (N:=2) rfl ?_);clear T0;refine bx_ 2 #[.int .i64 0, .slice none 0 0, .slice none 0 0] 60 ?_;intro gr hg wr hbox hb;have Br:=q_ hbox;have Gr:=ge_ hg HB;replace HB:=sb_ HB hb;clear hb hbox hg;obtain⟨hr0,hr1,hr2,fr0,fr1,fr2⟩:=d3_ Br)
   | ((with_reducible refine gate_dst (N:=4) rfl ?_);clear T1;refine bx_ 4 #[.int .i64 0, .slice none 0 0, .slice none 0 0] 60 ?_;intro gn hg wn hbox hb;have Bn:=q_ hbox;have Gn:=ge_ hg HB;have NB:=nl_ hg Br;replace Br:=lb_ Br hb;replace HB:=sb_ HB hb;clear hb hbox hg;obtain⟨hn0,hn1,hn2,fn0,fn1,fn2⟩:=d3_ Bn))
  have Br2:=q_ (finO_ (gr:=gn) (a:= .int .i64 0) (b:= .slice none 0 0) (c:= .slice none 0 0) Br.o NB.o);have Bn2:=q_ (fin3_ (a:= .int .i64 0) (b:= .slice none 0 0) (c:= .slice none 0 0) Bn.o);replace HB:=q_ (finB_ (a:= .int .i64 0) (b:= .slice none 0 0) (c:= .slice none 0 0) HB.o Gn.o);clear Br Bn hr0 hr1 hr2 fr0 fr1 fr2 hn0 hn1 hn2 fn0 fn1 fn2;generalize((wn.setCell ⟨gn,0,none⟩ (.int .i64 0)).setCell ⟨gn,1,none⟩ (.slice none 0 0)).setCell ⟨gn,2,none⟩ (.slice none 0 0)=w2 at *;have Br:=Br2;have Bn:=Bn2;clear Br2 Bn2;obtain⟨hr0,hr1,hr2,fr0,fr1,fr2⟩:=d3_ Br;obtain⟨hn0,hn1,hn2,fn0,fn1,fn2⟩:=d3_ Bn;by_cases c1:(l.length:Int)<1
  ·obtain⟨rfl,rfl⟩:=H0.o (by unfold okRxs;rw[decide_eq_false (by omega),Bool.false_and])
   have d1:decide ((l.length:Int)<1)=true:=dt_ c1;clear H0 H1 c1;go_wp2;refine bodyPost_ret (results_ct rfl _ _ gr 60 #[.int .i64 0, .slice none 0 0, .slice none 0 0] (0,0) _ rfl (fin3_ Br.o) Try.underlying60 rfl (by kernel_rfl)) rfl ?_;exact⟨_,_,rfl,Kd.S_nil _ _ _ _ _,Kd.R_nil _ _ _ _ _,finB_ HB.o Gr.o⟩
  by_cases c2:(l.length:Int)>40
  ·obtain⟨rfl,rfl⟩:=H0.o (by unfold okRxs;rw[decide_eq_false (by omega),Bool.false_and])
   have d1:decide ((l.length:Int)<1)=false:=df_ c1;have d2:decide ((l.length:Int)>40)=true:=dt_ c2;clear H0 H1 c1 c2;go_wp2;refine bodyPost_ret (results_ct rfl _ _ gr 60 #[.int .i64 0, .slice none 0 0, .slice none 0 0] (0,0) _ rfl (fin3_ Br.o) Try.underlying60 rfl (by kernel_rfl)) rfl ?_;exact⟨_,_,rfl,Kd.S_nil _ _ _ _ _,Kd.R_nil _ _ _ _ _,finB_ HB.o Gr.o⟩
  have d1:decide ((l.length:Int)<1)=false:=df_ c1;have d2:decide ((l.length:Int)>40)=false:=df_ c2;have hlen:1≤(l.length:Int)∧(l.length:Int)≤40:=by omega
  have hok:J0 (okRxs l=l.all fun x=>rxB x.f0):=⟨by unfold okRxs;rw[decide_eq_true hlen,Bool.true_and]⟩;clear c1 c2;go_wp2;clear d1 d2 hr0 hr1 hr2 fr0 fr1 fr2 hn0 hn1 hn2 fn0 fn1 fn2
  go_loopg [5] l.length (fun gg v5 wr=>∃kk:Nat,v5= .int .i64 kk∧kk≤l.length∧l.length-kk≤gg∧J0 (okRxs l=(l.drop kk).all fun x=>rxB x.f0)∧J0 (wr.heap[gr]? =some (.cells #[.int .i64 0, .slice none 0 0, .slice none 0 0] 60))∧J0 (wr.heap[gn]? =some (.cells #[.int .i64 0, .slice none 0 0, .slice none 0 0] 60))∧J0 (Below w.heap.size w wr))
  case atStart=>exact⟨0,rfl,Nat.zero_le _,by omega,hok,Br,Bn,HB⟩
  case round=>
    clear hok Br Bn HB;obtain⟨kk,rfl,hkk,hgg,HA,Br,Bn,HB⟩:=hrel;by_cases hlt:kk<l.length
    · have hltz:(kk:Int)<(l.length:Int):=by omega
      have hk0:(0:Int)≤(kk:Int):=by omega
      obtain⟨ad,A1,c1,e1,hx0,hl1,hi1⟩:=at_T67 HR.o (kk:Int) (by omega) hltz;cases e1;rw[Int.toNat_natCast]at hx0;replace hx0:=mv_ HB.o hx0;have hm:rd_T67 l (kk:Int)∈l:=by
        unfold rd_T67;rw[List.getD_eq_getElem?_getD,List.getElem?_eq_getElem (show(kk:Int).toNat<l.length by omega)];exact List.getElem_mem _
      have hxo:=HL.o _ hm;have hst:okRxs l=(rxB (rd_T67 l (kk:Int)).f0&&(l.drop (kk+1)).all fun x=>rxB x.f0):=by
        rw[HA.o,drop_cons l z67 kk hlt];have hr:l.getD kk z67=rd_T67 l (kk:Int):=by simp[rd_T67]
        rw[hr];rfl
      clear hm HA;generalize rd_T67 l (kk:Int)=x at *;have HI1:=q_ hi1;have HL1:=q_ hl1;clear hi1 hl1;cases hq:rxB x.f0
      · rw[hq]at hxo hst
        rw[Bool.false_and]at hst;obtain⟨rfl,rfl⟩:=H0.o hst;have HXO:=q_ hxo;clear H0 H1 hst hxo hq
        go_wp2_with(go_at_call 133;(with_reducible refine(spec_RxOk.calls k _ _ x.f0 _ _ (Kd.C_below HI1.o HB.o) HL1.o HXO.o).mono ?_);rintro e w3 ⟨rfl,hb⟩;replace Br:=lb_ Br hb;replace Bn:=lb_ Bn hb;replace HB:=sb_ HB hb;clear hb;obtain⟨hr0,hr1,hr2,fr0,fr1,fr2⟩:=d3_ Br;obtain⟨hn0,hn1,hn2,fn0,fn1,fn2⟩:=d3_ Bn)
        refine bodyPost_ret (results_ct rfl _ _ gr 60 #[.int .i64 0, .slice none 0 0, .slice none 0 0] (0,0) _ rfl (fin3_ Br.o) Try.underlying60 rfl (by kernel_rfl)) rfl ?_;exact⟨_,_,rfl,Kd.S_nil _ _ _ _ _,Kd.R_nil _ _ _ _ _,finB_ HB.o Gr.o⟩
      · rw[hq]at hxo hst
        rw[Bool.true_and]at hst;have HXO:=q_ hxo;have HST:=q_ hst;clear hst hxo hq
        go_wp2_with(go_at_call 133;(with_reducible refine(spec_RxOk.calls k _ _ x.f0 _ _ (Kd.C_below HI1.o HB.o) HL1.o HXO.o).mono ?_);rintro e w3 ⟨rfl,hb⟩;replace Br:=lb_ Br hb;replace Bn:=lb_ Bn hb;replace HB:=sb_ HB hb;clear hb;obtain⟨hr0,hr1,hr2,fr0,fr1,fr2⟩:=d3_ Br;obtain⟨hn0,hn1,hn2,fn0,fn1,fn2⟩:=d3_ Bn)
        go_roundg (l.length-(kk+1))
        case measure=>omega
        case rel=>exact⟨kk+1,by go_num,by omega,by omega,HST,Br,Bn,HB⟩
    · have e:kk=l.length:=by omega
      subst e;have hok:okRxs l=true:=by rw[HA.o];simp
      obtain⟨b2,hb2,hF,hT⟩:=H1.o hok;have hal:∀x∈l,rxB x.f0=true:=by
        unfold okRxs at hok;exact List.all_eq_true.1 (Bool.and_eq_true_iff.1 hok).2
      have HX:J0 (∀x∈l,rxN x):=⟨fun x hx=>by obtain⟨h1,h2,h3⟩:=rxB_parts (hal x hx);exact⟨h1,by omega,h3⟩⟩;have HBB:=q_ hb2;have HF:=q_ hF;have HT:=q_ hT;have HWR:=q_ HB.o.size;clear hb2 hF hT hok hal HA H0 H1 HL hgg hkk
      go_wp2_with((with_reducible refine gate_dst (N:=35) rfl ?_);clear T2;refine bx_ 35 #[.int .i64 1, .slice none 0 0, .slice none 0 0] 186 ?_;intro g hg wA hbox hb;have BG:=q_ hbox;have NR:=nl_ hg Br;have NN:=nl_ hg Bn;have GG:=ge_ hg HB;replace Br:=lb_ Br hb;replace Bn:=lb_ Bn hb;replace HB:=sb_ HB hb;clear hb hbox hg)
      have FR:J0 (FrB 186 w wA wA (fun k=>wA.heap.size≤k) g (upN timesS l 0).1.1 (upN timesS l 0).1.2 (upN timesS l 0).2):=⟨FrB.here ⟨_,_,BG.o,GG.o,Kd.S_nil _ _ _ _ _,Kd.R_nil _ _ _ _ _⟩ HB.o⟩;clear BG HB
      go_loopg [7] l.length (fun gg v7 wr=>∃kk:Nat,v7= .int .i64 kk∧kk≤l.length∧l.length-kk≤gg∧J0 (FrB 186 w wA wr (fun k=>wA.heap.size≤k) g (upN timesS l kk).1.1 (upN timesS l kk).1.2 (upN timesS l kk).2))
      case atStart=>exact⟨0,rfl,Nat.zero_le _,by omega,FR⟩
      case round=>
        clear FR HWR;obtain⟨kk,rfl,hkk,hgg,FA⟩:=hrel;by_cases hlt:kk<l.length
        · have hltz:(kk:Int)<(l.length:Int):=by omega
          have hk0:(0:Int)≤(kk:Int):=by omega
          obtain⟨ad,A1,c1,e1,hx0,hl1,hi1⟩:=at_T67 HR.o (kk:Int) (by omega) hltz;cases e1;rw[Int.toNat_natCast]at hx0;have HX0:=q_ hx0;clear hx0;have hm:rd_T67 l (kk:Int)∈l:=by
            unfold rd_T67;rw[List.getD_eq_getElem?_getD,List.getElem?_eq_getElem (show(kk:Int).toNat<l.length by omega)];exact List.getElem_mem _
          have hxn:=HX.o _ hm;have hbn:=upNS_bn l HX.o kk hkk;have hbn2:=upNS_bn l HX.o (kk+1) (by omega);have hen:=upN_ends timesS l kk;have hup:upN timesS l (kk+1)=addN timesS (rd_T67 l (kk:Int)) (kk:Int) (upN timesS l kk):=rfl;generalize rd_T67 l (kk:Int)=x at *;generalize hU1:upN timesS l (kk+1)=U1 at *;have HU1:=q_ hU1;clear hU1;obtain⟨⟨⟨n,es⟩,en⟩,hU⟩:∃q,q=upN timesS l kk:=⟨_,rfl⟩;rw[←hU]at FA hbn hen hup;clear hU;dsimp only at FA hbn hen;obtain⟨⟨a,z,n2,es2⟩,hq⟩:∃q,q=xN timesS x (n,es):=⟨_,rfl⟩;unfold addN at hup;dsimp only at hup;rw[←hq]at hup;dsimp only[edgeN]at hup;subst hup;have HQ:=q_ (show(a,z,n2,es2)=partN timesS x.f0 x.f0.length ((x.f0.length:Int)-1) (n,es)from hq);have hs0:=hbn2.2.2;dsimp only at hs0;rw[List.length_append,List.length_singleton]at hs0;have HN1:=q_ (hbn.le (show 16000+kk≤60000 by omega));have hx1:=hxn.1;have hx2:=hxn.2.1;have HP:=q_ (partS_hand (c:=c1) (Kd.C_below hi1 (Below.refl _ _)) hl1 hxn.2.2 x.f0.length ((x.f0.length:Int)-1) (by omega) (by omega) (by omega) (by omega));have HEN:=q_ hen;clear hi1 hl1 hxn hbn hbn2 hm hq hen HX HBB HF HT;have HGW:=q_ (Bd_lt FA.o.st);have HFR:J0 (∀k,wr.heap.size≤k→wA.heap.size≤k):=⟨fun k hk=>Nat.le_trans FA.o.kp.1 hk⟩;go_upto_region 13 with fail
          have q0:=eq_true hk0;have q1:=eq_true hltz;have q2:=eq_true hlt;have FR:=q_ (FrB.drew (FrB.here FA.o.st FA.o.lo));refine start_ (n:=18) (S:=fun w'=>w'.cell? (ad.add kk)=some (.slice A1 x.f0.length c1)) (ds:=[]) (bb 18 0) (by kernel_rfl) rfl rfl (mv_ FR.o.lo HX0.o) (fun hS=>?_);generalize World.drew _=wd at FR hS ⊢;refine pk_ 0 43 1 ?_;refine pk_ 1 44 3 ?_;refine pk_ 2 45 7 ?_;refine pk_ 3 46 15 ?_;refine tk_ 4 47 31 hS ?_;refine pk_ 5 48 63 ?_;refine pk_ 6 49 127 ?_;refine pk_ 7 50 255 ?_;refine pk_ 8 51 511 ?_;refine tk_ 9 52 1023 hS ?_;refine pk_ 10 53 2047 ?_;refine pk_ 11 54 4095 ?_;refine one_ (i:=12) (N:=some 55) (bb 18 8191) rfl rfl (by kernel_rfl) (by decide) (fun K hK=>?_);refine gs_ Try.func134 #[.pointer (some ⟨g,0,none⟩), .agg #[.slice A1 x.f0.length c1], .int .i64 (wrap64 ((x.f0.length:Int)-1))] ?_;rw[wrap_id (x:=(x.f0.length:Int)-1) (by omega) (by omega)];(with_reducible refine(HP.out.at HQ.o HN1.o FR.o.st FR.o.lo (FR.o.fr HFR.o)).mono ?_);rintro e w8 ⟨rfl,hI,hB,hK2⟩;refine⟨_,rfl,?_⟩;replace FR:=q_ (FR.o.call hI hB hK2);clear hI hB hK2;refine hK.out _ _ (mv_ FR.o.lo HX0.o) (fun hS=>?_);clear hK K;refine no_ (some 55) ?_;refine pk_ 13 42 16383 ?_;refine pk_ 14 56 32767 ?_;refine pk_ 15 57 65535 ?_;refine pk_ 16 8 131071 ?_;refine pk_ 17 9 262143 ?_;refine done_ (by kernel_rfl) ?_;clear hS q0 q1 q2
          go_wp2_with(first
            | (go_at_call 135;refine(edgeS_hand _ g _ _ _ _ en none 0 [] _ FR.o.st FR.o.lo (FR.o.fr HFR.o) (Kd.C_nil _ _) (Nat.le_refl _) (by simp) (by omega)).mono ?_;rintro e w9 ⟨rfl,hI,hB,hK2⟩;replace FR:=q_ (FR.o.call hI hB hK2);clear hI hB hK2;obtain⟨v0,v1,hG,hg,hR0,hR1⟩:=FR.o.st;obtain⟨A9,c9,rfl⟩:=Kd.R_slice hR1;have BK:=q_ hG;have GE:=q_ hg;have O0:=q_ hR0;have O1:=q_ hR1;have HLO:=q_ FR.o.lo;obtain⟨hb0,hb1,hb2,hbf0,hbf1,hbf2⟩:=d3_ BK;clear hG hg hR0 hR1)
            | ((with_reducible refine gate_builtin (b:= .append) (xs:=#[.tmp 66, .tmp 70]) rfl ?_);at_builtin;refine Kd.R_append k138 (w0:=w) w.heap.size rfl (.tmp 66) (.tmp 70) 58 138 (.agg #[(.int .i64 0),(.int .i64 0)]) 16 rfl Try.underlying58 infoEnd_ rfl (by decide) (by omega) (.slice A9 en.length c9) en (⟨z,(kk:Int)⟩:S138) [.int .i64 z, .int .i64 (kk:Int)] (fun k=>wA.heap.size≤k) (fun _=>False) rfl rfl ?aP (fun _ hk=>hk.elim) ?aF ?aO ?aB ?aS ?aL ?_;(case aP=>exact k138_mkM _ _ _ (⟨z,(kk:Int)⟩:S138));(case aF=>exact FR.o.fr HFR.o);(case aO=>exact O1.o);(case aB=>exact HLO.o);(case aS=>exact HLO.o.size);(case aL=>have:=HEN.o;omega);intro v2 w2 ho hb hgr hat;obtain⟨A2,c2,e2⟩:=Kd.R_slice ho;subst e2;have hln:(en++ [(⟨z,(kk:Int)⟩:S138)]).length=en.length+1:=(by simp);rw[hln]at ho ⊢;have hne:=Kd.R_ne O1.o BK.o (by decide);have HOb:=q_ (Kd.S_over' O0.o (Kd.R_typed O1.o) (by decide) hgr);have BK2:=q_ (blk_grown BK.o hgr hne);have KP2:=q_ (grown_keep (g:=g) O1.o hgr);have O2:=q_ ho;have HB2:=q_ hb;clear hb0 hb1 hb2 hbf0 hbf1 hbf2;obtain⟨hb0,hb1,hb2,hbf0,hbf1,hbf2⟩:=d3_ BK2;clear ho hb hgr hat hne hln))
          go_roundg (l.length-(kk+1))
          case measure=>omega
          case rel=>
            refine⟨kk+1,by go_num,by omega,by omega,?_⟩;rw[HU1.o];have F2:=FR.o.call (W2:=w2.setCell ⟨g,2,none⟩ (.slice A2 (en.length+1) c2)) ⟨_,_,(blk_set BK2.o 2 _).trans rfl,GE.o,Kd.S_set HOb.o BK2.o (by decide) 2 _,Kd.R_set O2.o BK2.o (by decide) 2 _⟩ (below_set HB2.o GE.o) (KeepB.trans KP2.o (KeepB.set 2 _));obtain⟨f1,f2,f3⟩:=F2.fin0;exact⟨FA.o.call f1 f2 f3⟩
        · have e:kk=l.length:=by omega
          subst e;have keep:∀j,wA.heap[j]? =some (.cells #[.int .i64 0, .slice none 0 0, .slice none 0 0] 60)→j≠g→wr.heap[j]? =some (.cells #[.int .i64 0, .slice none 0 0, .slice none 0 0] 60):=fun j hj hne=>FA.o.kp.blk hj hne (fun h=>Nat.not_lt.2 h (blk_lt hj))
          have hfar:J0 (∀k,wA.heap.size≤k→k≠gr):=⟨fun k hk e=>by have:=blk_lt Br.o;omega⟩;replace Br:=q_ (keep gr Br.o NR.o);replace Bn:=q_ (keep gn Bn.o NN.o);clear keep HR HX;generalize upN timesS l l.length=U at *;obtain⟨⟨n,es⟩,en⟩:=U;dsimp only at FA HBB;have FR:=FA;clear FA;obtain⟨v0,v1,hG,hg,hR0,hR1⟩:=FR.o.st;obtain⟨A9,c9,rfl⟩:=Kd.R_slice hR1;have BK:=q_ hG;have GE:=q_ hg;have O0:=q_ hR0;have O1:=q_ hR1;have HLO:=q_ FR.o.lo;obtain⟨hb0,hb1,hb2,hbf0,hbf1,hbf2⟩:=d3_ BK;clear hG hg hR0 hR1;obtain⟨A8,c8,e8⟩:=Kd.S_slice O0.o;subst e8;have q1:=(Kd.S_reads' O0.o).2;have q2:=(Kd.R_reads' O1.o).2;cases b2
          · obtain⟨rfl,rfl⟩:=HF.o rfl
            clear HF HT
            go_wp2_with(go_at_call 75;(with_reducible refine(spec_NfaOk.calls k _ _ _ es _ _ en _ _ q1.2 q1.1 q2.2 q2.1 HBB.o).mono ?_);rintro e w3 ⟨rfl,hb⟩;replace Br:=lb_ Br hb;replace Bn:=lb_ Bn hb;replace BK:=lb_ BK hb;replace O0:=q_ (Kd.S_below O0.o hb);replace O1:=q_ (Kd.R_below O1.o hb);replace HLO:=sb_ HLO hb;clear hb hb0 hb1 hb2 hbf0 hbf1 hbf2 q1 q2 FR;obtain⟨hr0,hr1,hr2,fr0,fr1,fr2⟩:=d3_ Br;obtain⟨hn0,hn1,hn2,fn0,fn1,fn2⟩:=d3_ Bn;obtain⟨hb0,hb1,hb2,hbf0,hbf1,hbf2⟩:=d3_ BK)
            refine bodyPost_ret (results_ct rfl _ _ gr 60 #[.int .i64 0, .slice none 0 0, .slice none 0 0] (0,0) _ rfl (fin3_ Br.o) Try.underlying60 rfl (by kernel_rfl)) rfl ?_;exact⟨_,_,rfl,Kd.S_nil _ _ _ _ _,Kd.R_nil _ _ _ _ _,finB_ HLO.o Gr.o⟩
          · obtain⟨rfl,rfl⟩:=HT.o rfl
            clear HF HT
            go_wp2_with(go_at_call 75;(with_reducible refine(spec_NfaOk.calls k _ _ _ es _ _ en _ _ q1.2 q1.1 q2.2 q2.1 HBB.o).mono ?_);rintro e w3 ⟨rfl,hb⟩;replace Br:=lb_ Br hb;replace Bn:=lb_ Bn hb;replace BK:=lb_ BK hb;replace O0:=q_ (Kd.S_below O0.o hb);replace O1:=q_ (Kd.R_below O1.o hb);replace HLO:=sb_ HLO hb;clear hb hb0 hb1 hb2 hbf0 hbf1 hbf2 q1 q2 FR;obtain⟨hr0,hr1,hr2,fr0,fr1,fr2⟩:=d3_ Br;obtain⟨hn0,hn1,hn2,fn0,fn1,fn2⟩:=d3_ Bn;obtain⟨hb0,hb1,hb2,hbf0,hbf1,hbf2⟩:=d3_ BK)
            refine bodyPost_ret (results_ct rfl _ _ gr 60 #[.int .i64 n, .slice A8 es.length c8, .slice A9 en.length c9] (0,0) _ rfl (fin3_ Br.o) Try.underlying60 rfl (by kernel_rfl)) rfl ?_;exact⟨_,_,rfl,fin3S_ O0.o hfar.o,fin3R_ O1.o hfar.o,finB_ HLO.o Gr.o⟩
end Go.Proofs.Ytlecpdpdcocibaa.P
namespace Go.Proofs.Ytlecpdpdcocibaa.P
open Go.RowKit Go.Proofs.YtlecpdpdcocibaaW.PrintWords Go.Proofs.YtlecpdpdcocibaaW.PrintLast Go.Proofs.YtlecpdpdcocibaaW.PrintMore
attribute [local go_sem] max2_int min2_int max_two min_two max_three min_three max_four min_four
set_option linter.unusedVariables false
set_option linter.unusedSimpArgs false
def spec_BuildNfa.g(k:Nat)(l0:List (S67)):Option (NE × Bool):=if ∀x∈l0,spec_RxOk.f k x.f0=some (rxB x.f0)then(if okRxs l0=true then(spec_NfaOk.f k (upN timesS l0 l0.length).1.1 (upN timesS l0 l0.length).1.2 (upN timesS l0 l0.length).2).bind (fun b=>some (if b=true then(upN timesS l0 l0.length,true)else(((0,[]),[]),false)))else some (((0,[]),[]),false))else none
def spec_BuildNfa.f(k:Nat)(l0:List (S67)):Option (Int × List (S116) × List (S138) × Bool):=(spec_BuildNfa.g k l0).bind fun r=>some (r.1.1.1,r.1.1.2,r.1.2,r.2)
theorem spec_BuildNfa.calls0(k:Nat)(A0:Option Addr)(c0:Nat)(l0:List (S67))(n:Int)(es:List (S116))(en:List (S138))(b:Bool)(w:World)(hr0:Kd.C k67 w A0 l0.length l0)(hc0:l0.length≤c0)(h:spec_BuildNfa.g k l0=some (((n,es),en),b)):
    Calls Try.prog 113 #[.slice A0 l0.length c0] w fun e w'=>∃v0_ v1_:Value,e= .returned (.tuple #[.agg #[.int .i64 n,v0_,v1_], .bool b])∧Kd.S k116 116 w' w.heap.size (fun _=>True) v0_ es∧Kd.R k138 138 w' w.heap.size (fun _=>True) v1_ en∧Below w.heap.size w w':=by
 unfold spec_BuildNfa.g at h;split at h
 ·rename_i hl
  refine BuildNfaS_hand A0 c0 l0 w hr0 hc0 k hl ((n,es),en) b (fun h0=>?_) (fun h1=>?_)
  ·rw[h0,iN (by decide)]at h;have h:=Option.some.inj h;exact⟨(congrArg (·.1) h).symm,(congrArg (·.2) h).symm⟩
  ·rw[h1,iP rfl]at h;obtain⟨b2,E,H⟩:=ob_ h;have H:=Option.some.inj H;refine⟨b2,E.o,fun hb=>?_,fun hb=>?_⟩
   ·subst hb;rw[iN (by decide)]at H;exact⟨(congrArg (·.1) H).symm,(congrArg (·.2) H).symm⟩
   ·subst hb;rw[iP rfl]at H;exact⟨(congrArg (·.1) H).symm,(congrArg (·.2) H).symm⟩
 ·simp at h
theorem spec_BuildNfa.calls(k:Nat)(A0:Option Addr)(c0:Nat)(l0:List (S67))(n:Int)(es:List (S116))(en:List (S138))(b:Bool)(w:World)(hr0:Kd.C k67 w A0 l0.length l0)(hc0:l0.length≤c0)(h:spec_BuildNfa.f k l0=some (n,es,en,b)):
    Calls Try.prog 113 #[.slice A0 l0.length c0] w fun e w'=>∃v0_ v1_:Value,e= .returned (.tuple #[.agg #[.int .i64 n,v0_,v1_], .bool b])∧Kd.S k116 116 w' w.heap.size (fun _=>True) v0_ es∧Kd.R k138 138 w' w.heap.size (fun _=>True) v1_ en∧Below w.heap.size w w':=by
 obtain⟨⟨⟨⟨n',es'⟩,en'⟩,b'⟩,E,H⟩:=ob_ h;obtain⟨rfl,rfl,rfl,rfl⟩:n'=n∧es'=es∧en'=en∧b'=b:=by simpa using H
 exact spec_BuildNfa.calls0 k A0 c0 l0 n' es' en' b' w hr0 hc0 E.o
def spec_l1Class.l0:Nat→List Bool→List (S163)→Int→Option ((List (S163)))
 |0,_,_,_=>none
 |k+1,x0,x3,x4=>if x4<256 then(if 0≤x4 then(if x4<(x0.length:Int)then(if rdOf false x0 x4=true then(if(x3.length:Int)>0 then(if 0≤(wrap64 ((x3.length:Int)-1))then(if(wrap64 ((x3.length:Int)-1))<(x3.length:Int)then(if((rd_T163 x3 (wrap64 ((x3.length:Int)-1))).f1)=(wrap64 (x4-1))then(spec_l1Class.l0 k x0 (x3.set ((wrap64 ((x3.length:Int)-1)):Int).toNat (⟨(rd_T163 x3 (wrap64 ((x3.length:Int)-1))).f0,x4⟩:S163)) (wrap64 (x4+1)))else(if x3.length<8796093022208 then(spec_l1Class.l0 k x0 (x3++ [(⟨x4,x4⟩:S163)]) (wrap64 (x4+1)))else(none)))else(none))else(none))else(if x3.length<8796093022208 then(spec_l1Class.l0 k x0 (x3++ [(⟨x4,x4⟩:S163)]) (wrap64 (x4+1)))else(none)))else(spec_l1Class.l0 k x0 x3 (wrap64 (x4+1))))else(none))else(none))else(some x3)
def spec_l1Class.f(k:Nat)(l0:List Bool):Option ((List (S163))):=spec_l1Class.l0 k l0 (([]:List (S163))) 0
theorem spec_l1Class.calls(k:Nat)(A0:Option Addr)(c0:Nat)(l0:List Bool)(r:List (S163))(w:World)(hr0:Kd.C Kd.bool w A0 l0.length l0)(hc0:l0.length≤c0)(h:spec_l1Class.f k l0=some r):
  Calls Try.prog 148 #[.slice A0 l0.length c0] w fun e w'=>∃v0_:Value,e= .returned (v0_)∧Kd.R k163 163 w' w.heap.size (fun _=>True) v0_ r∧Below w.heap.size w w':=by
 have hu163:=Try.underlying163;have HR0:=q_ hr0;have HC0:=q_ hc0;clear hr0 hc0;have HB:=q_ (Below.refl w.heap.size w);have H:(spec_l1Class.l0 k l0 (([]:List (S163))) 0)=some r:=h;clear h;generalize hy101:([]:List (S163))=y101 at H;have Ny101:=q_ hy101.symm;clear hy101;have H':=q_ H;clear H;go_enter Try.func148,Try.ntmps148
 go_wp2_with(((with_reducible refine gate_dst (N:=5) rfl ?_);(try(refine gate_guard (by rfl) ?_;dsimp only));refine Kd.R_lit k163 _ 163 ?hg (N:=5) ?hd (xs:=([]:List (S163))) (inner:=[]) (ok:=fun _=>True) (okp:=fun _=>True) ?hr ?hp (fun _ hk=>hk) trivial (Below.refl _ _) (Nat.le_refl _) (by simp) ?_;(case hd=>rfl);(case hg=>rfl);(case hr=>first| (go_simp;done)| (go_simp;rfl));(case hp=>exact(Reps.none _ _));intro v102 w2 ho3 hb hg_ hnew_;clear hg_ hnew_;(rw[←Ny101.o]at ho3);have O103:=q_ (Kd.R_lower ho3 (below_size (be_ HB.o)));replace HB:=sb_ HB hb;clear hb ho3))
 go_loopg [3,4] k (fun kq v3 v4 w'=>∃(x3_1:List (S163)) (x4_1:Int),v4= .int .i64 x4_1∧J0 (spec_l1Class.l0 kq l0 x3_1 x4_1=some r)∧J0 (kq≤k)∧J0 (Kd.R k163 163 w' w.heap.size (fun _=>True) v3 x3_1)∧J0 (Below w.heap.size w w'))
 case atStart=>exact⟨(y101),(0),rs_,H',⟨Nat.le_refl _⟩,⟨ra_ O103.o⟩,⟨be_ HB.o⟩⟩
 case round=>
  clear H';obtain⟨x3_1,x4_1,rfl,HA,HK1,O_3,HB⟩:=hrel;cases gk with
  |zero=>exact absurd HA.o (by simp[spec_l1Class.l0])
  | succ k1=>
   have H:=HA.o;clear HA;simp only[spec_l1Class.l0]at H;by_cases c4:x4_1<256;rotate_left
   ·rw[iN c4]at H;have c4b0:=df_ c4;clear c4;obtain rfl:=Option.some.inj H;go_wp2
    go_ret
    exact⟨_,rt_,ra_ O_3.o,be_ HB.o⟩
   rw[iP c4]at H;have c4b0:=dt_ c4;clear c4;obtain⟨c5b0,H⟩:=iq_ H;obtain⟨c6b0,H⟩:=iq_ H;obtain⟨bq7,hbq7⟩:∃b_:Bool,b_=(rdOf false l0 x4_1):=⟨_,rfl⟩;replace H:(if bq7=true then(if(x3_1.length:Int)>0 then(if 0≤(wrap64 ((x3_1.length:Int)-1))then(if(wrap64 ((x3_1.length:Int)-1))<(x3_1.length:Int)then(if((rd_T163 x3_1 (wrap64 ((x3_1.length:Int)-1))).f1)=(wrap64 (x4_1-1))then(spec_l1Class.l0 k1 l0 (x3_1.set ((wrap64 ((x3_1.length:Int)-1)):Int).toNat (⟨(rd_T163 x3_1 (wrap64 ((x3_1.length:Int)-1))).f0,x4_1⟩:S163)) (wrap64 (x4_1+1)))else(if x3_1.length<8796093022208 then(spec_l1Class.l0 k1 l0 (x3_1++ [(⟨x4_1,x4_1⟩:S163)]) (wrap64 (x4_1+1)))else(none)))else(none))else(none))else(if x3_1.length<8796093022208 then(spec_l1Class.l0 k1 l0 (x3_1++ [(⟨x4_1,x4_1⟩:S163)]) (wrap64 (x4_1+1)))else(none)))else(spec_l1Class.l0 k1 l0 x3_1 (wrap64 (x4_1+1))))=some r:=by rw[←hbq7]at H;exact H
   have Nbq7:=q_ hbq7;clear hbq7;by_cases c8:bq7=true;rotate_left
   ·replace c8:=Bool.eq_false_iff.mpr c8;subst c8;rw[iN nft_]at H;have H':=q_ H;clear H;obtain⟨p104,q104⟩:=pq_ x4_1 (l0.length:Int);obtain⟨ad104,e104,X104_0⟩:=Kd.at_bool HR0.o x4_1 p104 q104
    (try rw[←Nbq7.o]at X104_0)
    cases e104;replace X104_0:=mv_ HB.o X104_0;obtain⟨p104,q104⟩:=et_ p104 q104;go_wp2
    go_roundg k1
    case measure=>have:=HK1.o;omega
    case rel=>exact⟨(x3_1),(wrap64 (x4_1+1)),rs_,H',⟨by have:=HK1.o;omega⟩,⟨ra_ O_3.o⟩,⟨be_ HB.o⟩⟩
   subst c8;rw[iP rfl]at H;by_cases c9:(x3_1.length:Int)>0;rotate_left
   ·rw[iN c9]at H;have c9b0:decide (0<(x3_1.length:Int))=false:=df_ c9;have c9b1:decide (0<x3_1.length)=false:=decide_eq_false (by omega);clear c9;obtain⟨c21,H⟩:=ip_ H;have LMc21:=q_ c21;clear c21;generalize hy110:(x3_1++ [(⟨x4_1,x4_1⟩:S163)]:List (S163))=y110 at H;have Ny110:=q_ hy110.symm;clear hy110;have H':=q_ H;clear H;obtain⟨p104,q104⟩:=pq_ x4_1 (l0.length:Int);obtain⟨ad104,e104,X104_0⟩:=Kd.at_bool HR0.o x4_1 p104 q104
    (try rw[←Nbq7.o]at X104_0)
    cases e104;replace X104_0:=mv_ HB.o X104_0;obtain⟨p104,q104⟩:=et_ p104 q104;obtain⟨Ao22,co22,eo22⟩:=Kd.R_slice O_3.o;subst eo22
    go_wp2_with(((with_reducible refine gate_builtin (b:= .append) (xs:=#[.tmp 37, .tmp 41]) rfl ?_);(try(refine gate_guard (by rfl) ?_;dsimp only));at_builtin;refine Kd.R_append k163 (w0:=w) w.heap.size rfl (.tmp 37) (.tmp 41) 114 163 (.agg #[(.int .i64 0),(.int .i64 0)]) 16 rfl Try.underlying114 info163 rfl (by decide) (by omega) (.slice Ao22 x3_1.length co22) x3_1 (⟨x4_1,x4_1⟩:S163) [.int .i64 x4_1, .int .i64 x4_1] (fun _=>True) (fun _=>False) rfl rfl ?aP (fun _ hk=>hk.elim) ?aF ?aO ?aB ?aS ?aL ?_;(case aP=>exact k163_mkM _ _ _ (⟨x4_1,x4_1⟩:S163));(case aB=>exact(be_ HB.o));(case aF=>exact(fun _ _=>trivial));(case aO=>exact(ra_ O_3.o));(case aS=>exact(below_size (be_ HB.o)));(case aL=>have:=LMc21.o;omega);intro v111 w23 ho hb hg hat;rw[←Ny110.o]at ho;have O112:=q_ (ho);replace HB:=q_ (hb);clear O_3 ho hb hg hat))
    go_roundg k1
    case measure=>have:=HK1.o;omega
    case rel=>exact⟨(y110),(wrap64 (x4_1+1)),rs_,H',⟨by have:=HK1.o;omega⟩,⟨ra_ O112.o⟩,⟨be_ HB.o⟩⟩
   rw[iP c9]at H;have c9b0:decide (0<(x3_1.length:Int))=true:=dt_ c9;have c9b1:decide (0<x3_1.length)=true:=decide_eq_true (by omega);clear c9;obtain⟨ji10,hji10⟩:∃j_:Int,(wrap64 ((x3_1.length:Int)-1))=j_:=⟨_,rfl⟩;replace H:(if 0≤(ji10)then(if(ji10)<(x3_1.length:Int)then(if((rd_T163 x3_1 (ji10)).f1)=(wrap64 (x4_1-1))then(spec_l1Class.l0 k1 l0 (x3_1.set ((ji10):Int).toNat (⟨(rd_T163 x3_1 (ji10)).f0,x4_1⟩:S163)) (wrap64 (x4_1+1)))else(if x3_1.length<8796093022208 then(spec_l1Class.l0 k1 l0 (x3_1++ [(⟨x4_1,x4_1⟩:S163)]) (wrap64 (x4_1+1)))else(none)))else(none))else(none))=some r:=by(rw[hji10]at H;exact H)
   have hji10w:(IntKind.i64.wrap ((x3_1.length:Int)-1))=ji10:=(i64_w _).trans hji10;obtain⟨d11,H⟩:=iq_ H;obtain⟨d12,H⟩:=iq_ H;by_cases c13:((rd_T163 x3_1 (ji10)).f1)=(wrap64 (x4_1-1));rotate_left
   ·rw[iN c13]at H;have d13:(((rd_T163 x3_1 (ji10)).f1)== (wrap64 (x4_1-1)))=false:=beq_eq_false_iff_ne.mpr c13;have c13b1:(((rd_T163 x3_1 (ji10)).f1) != (wrap64 (x4_1-1)))=true:=bne_iff_ne.mpr c13;obtain⟨c18,H⟩:=ip_ H;have LMc18:=q_ c18;clear c18;generalize hy107:(x3_1++ [(⟨x4_1,x4_1⟩:S163)]:List (S163))=y107 at H;have Ny107:=q_ hy107.symm;clear hy107;have H':=q_ H;clear H;obtain⟨p104,q104⟩:=pq_ x4_1 (l0.length:Int);obtain⟨ad104,e104,X104_0⟩:=Kd.at_bool HR0.o x4_1 p104 q104
    (try rw[←Nbq7.o]at X104_0)
    cases e104;replace X104_0:=mv_ HB.o X104_0;obtain⟨p104,q104⟩:=et_ p104 q104;obtain⟨Ao19,co19,eo19⟩:=Kd.R_slice O_3.o;subst eo19;obtain⟨p105,q105⟩:=pq_ (ji10) (x3_1.length:Int);obtain⟨ad105,e105,X105_0,X105_1⟩:=at_T163 (Kd.R_reads' O_3.o).2.2 (ji10) p105 q105;cases e105;obtain⟨p105,q105⟩:=et_ p105 q105
    go_wp2_with(((with_reducible refine gate_builtin (b:= .append) (xs:=#[.tmp 37, .tmp 41]) rfl ?_);(try(refine gate_guard (by rfl) ?_;dsimp only));at_builtin;refine Kd.R_append k163 (w0:=w) w.heap.size rfl (.tmp 37) (.tmp 41) 114 163 (.agg #[(.int .i64 0),(.int .i64 0)]) 16 rfl Try.underlying114 info163 rfl (by decide) (by omega) (.slice (some ad105) x3_1.length co19) x3_1 (⟨x4_1,x4_1⟩:S163) [.int .i64 x4_1, .int .i64 x4_1] (fun _=>True) (fun _=>False) rfl rfl ?aP (fun _ hk=>hk.elim) ?aF ?aO ?aB ?aS ?aL ?_;(case aP=>exact k163_mkM _ _ _ (⟨x4_1,x4_1⟩:S163));(case aB=>exact(be_ HB.o));(case aF=>exact(fun _ _=>trivial));(case aO=>exact(ra_ O_3.o));(case aS=>exact(below_size (be_ HB.o)));(case aL=>have:=LMc18.o;omega);intro v108 w20 ho hb hg hat;rw[←Ny107.o]at ho;have O109:=q_ (ho);replace HB:=q_ (hb);clear O_3 ho hb hg hat))
    go_roundg k1
    case measure=>have:=HK1.o;omega
    case rel=>exact⟨(y107),(wrap64 (x4_1+1)),rs_,H',⟨by have:=HK1.o;omega⟩,⟨ra_ O109.o⟩,⟨be_ HB.o⟩⟩
   rw[iP c13]at H;have d13:(((rd_T163 x3_1 (ji10)).f1)== (wrap64 (x4_1-1)))=true:=beq_iff_eq.mpr c13;have c13b1:(((rd_T163 x3_1 (ji10)).f1) != (wrap64 (x4_1-1)))=false:=bne_eq_false_iff_eq.mpr c13;clear c13;generalize hy106:(x3_1.set ((ji10):Int).toNat (⟨(rd_T163 x3_1 (ji10)).f0,x4_1⟩:S163):List (S163))=y106 at H;have Ny106:=q_ hy106.symm;clear hy106;have H':=q_ H;clear H;obtain⟨p104,q104⟩:=pq_ x4_1 (l0.length:Int);obtain⟨ad104,e104,X104_0⟩:=Kd.at_bool HR0.o x4_1 p104 q104
   (try rw[←Nbq7.o]at X104_0)
   cases e104;replace X104_0:=mv_ HB.o X104_0;obtain⟨p104,q104⟩:=et_ p104 q104;obtain⟨Ao15,co15,eo15⟩:=Kd.R_slice O_3.o;subst eo15;obtain⟨p105,q105⟩:=pq_ (ji10) (x3_1.length:Int);obtain⟨ad105,e105,X105_0,X105_1⟩:=at_T163 (Kd.R_reads' O_3.o).2.2 (ji10) p105 q105;cases e105;obtain⟨p105,q105⟩:=et_ p105 q105;obtain⟨p14,q14⟩:=pq_ (ji10) ((x3_1.length:Int):Int);obtain⟨go14,co14,eo14,gb14,gl14,cl14,HG14⟩:=Kd.R_form O_3.o (by omega);(cases eo14);have GB14:=q_ gb14;have GG14:=q_ HG14;clear gb14 gl14 HG14
   (simp only[add_plain]at X105_0)
   (simp only[add_plain]at X105_1)
   obtain⟨ce14,hcl14,hM14,hcc14,hfr14⟩:=Kd.R_elem O_3.o z163 ((ji10):Int) p14 q14;obtain rfl:=k163_openM hM14;have X14_0:wr.cell? ⟨go14,((ji10):Int).toNat*2,none⟩=some (.int .i64 ((rd_T163 x3_1 (ji10)).f0)):=hcc14 0 _ rfl;have X14_1:wr.cell? ⟨go14,((ji10):Int).toNat*2+1,none⟩=some (.int .i64 ((rd_T163 x3_1 (ji10)).f1)):=hcc14 1 _ rfl;have hf14_0:wr.frozen? ⟨go14,((ji10):Int).toNat*2,none⟩=false:=hfr14 0;have hf14_1:wr.frozen? ⟨go14,((ji10):Int).toNat*2+1,none⟩=false:=hfr14 1;clear hcl14 hcc14 hfr14 hM14;obtain⟨p14,q14⟩:=et_ p14 q14;have HX16:=q_ (show Kd.R k163 163 wr w.heap.size (fun _=>True) (.slice (some ⟨go14,0,none⟩) x3_1.length co15) x3_1 from(ra_ O_3.o));obtain⟨ce16,hcl16,hM16,hcc16,hfr16⟩:=Kd.R_elem HX16.o z163 ((ji10):Int) (ot_ as_) (by have h_:((ji10):Int)<((x3_1.length:Int):Int):=ot_ as_;first|exact h_| (have e_:=(Kd.R_reads' O_3.o).1;omega)|simpa using h_);obtain rfl:=k163_openM hM16;have HP16:=Kd.R_seg HX16.o ((ji10):Int) (ot_ as_) (by have h_:((ji10):Int)<((x3_1.length:Int):Int):=ot_ as_;first|exact h_| (have e_:=(Kd.R_reads' O_3.o).1;omega)|simpa using h_) (seg:=[.int .i64 x4_1]) (j:=1) hcl16 hcc16 (show 2≤2 from by decide) (x':=(⟨(rd_T163 x3_1 (ji10)).f0,x4_1⟩:S163)) (k163_mkM _ _ _ (⟨(rd_T163 x3_1 (ji10)).f0,x4_1⟩:S163)) (fun _ hk=>hk);have X16_1:=hcc16 1 _ rfl
   (try simp only[show(k163).sz=2 from rfl,Nat.mul_one,Nat.add_zero]at X16_1)
   have hf16_1:=hfr16 1
   (try simp only[show(k163).sz=2 from rfl,Nat.mul_one,Nat.add_zero]at hf16_1)
   clear hcl16 hcc16 hfr16 hM16
   go_wp2_with(((with_reducible refine gate_store (t:=2) (p:=36) rfl ?_);refine store_event (t:=2) (p:=36) (v:=?vo_w17) (w1:=(wr.setCell ⟨go14,((ji10):Int).toNat*2+1,none⟩ (.int .i64 x4_1))) ?hg ?ho ?hn ?hr ?_;(case ho=>rfl);(case hg=>rfl);(case hn=>rfl);(case hr=>first| (go_simp;done)| (go_simp;rfl));intro w17 hw;have hg:wr.grownBy w17 (some go14):=(by rw[hw];exact HP16.2);have hp_:Kd.R k163 163 w17 w.heap.size (fun _=>True) (.slice (some ⟨go14,0,none⟩) x3_1.length co15) y106:=(by rw[hw,Ny106.o];exact HP16.1);clear HP16;replace O_3:=q_ (hp_);replace HB:=q_ ((by rw[hw];exact below_set (HB.o) GB14.out:Below w.heap.size w w17));clear hg hw hp_))
   go_roundg k1
   case measure=>have:=HK1.o;omega
   case rel=>exact⟨(y106),(wrap64 (x4_1+1)),rs_,H',⟨by have:=HK1.o;omega⟩,⟨ra_ O_3.o⟩,⟨be_ HB.o⟩⟩
mutual
def spec_l1Rd_class.l0:Nat→List Bool→Int→List Int→Int→Option ((List (S163)) × Int)
 |0,_,_,_,_=>none
 |k+1,x3,x4,x1000,x1001=>if x4>0 then((spec_l1Rd_below.f x1000 x1001 256).bind fun bt109=>((spec_l1Rd_once.f x1000 bt109.2 2).bind fun bt111=>(if bt111.1=true then((spec_l1Rd_below.f x1000 bt111.2 8).bind fun bt113=>(spec_l1Rd_class.j1 k x3 x4 (wrap64 (97+bt113.1)) x1000 bt113.2))else(spec_l1Rd_class.j1 k x3 x4 bt109.1 x1000 bt111.2))))else((spec_l1Class.f k x3).bind fun t106=>(some (t106,x1001)))
def spec_l1Rd_class.j1:Nat→List Bool→Int→Int→List Int→Int→Option ((List (S163)) × Int)
 |0,_,_,_,_,_=>none
 |k+1,x3,x4,x5,x1000,x1001=>spec_l1Rd_class.l1 k x3 x4 x5 x5 x1000 x1001
def spec_l1Rd_class.l1:Nat→List Bool→Int→Int→Int→List Int→Int→Option ((List (S163)) × Int)
 |0,_,_,_,_,_,_=>none
 |k+1,x3,x4,x5,x6,x1000,x1001=>if x6<256 then((spec_l1Rd_below.f x1000 x1001 6).bind fun bt115=>(if x6≤(wrap64 (x5+bt115.1))then(if 0≤x6 then(if x6<(x3.length:Int)then(spec_l1Rd_class.l1 k (x3.set (x6:Int).toNat true) x4 x5 (wrap64 (x6+1)) x1000 bt115.2)else(none))else(none))else(spec_l1Rd_class.l0 k x3 (wrap64 (x4-1)) x1000 bt115.2)))else(spec_l1Rd_class.l0 k x3 (wrap64 (x4-1)) x1000 x1001)
end
def spec_l1Rd_class.f(k:Nat)(s0_0:List Int)(s0_1:Int):Option ((List (S163)) × Int):=if 256≤281474976710656 then((spec_l1Rd_below.f s0_0 s0_1 5).bind fun bt104=>(spec_l1Rd_class.l0 k (List.replicate 256 false) bt104.1 s0_0 bt104.2))else(none)
theorem spec_l1Rd_class.calls(k:Nat)(g:Nat)(s0_0:List Int)(s0_1:Int)(r1:List (S163))(r2:Int)(w0 w:World)(hI:IsS149 w0 w g s0_0 s0_1)(hB:Below w0.heap.size w0 w)(h:spec_l1Rd_class.f k s0_0 s0_1=some (r1,r2)):
  Calls Try.prog 136 #[.pointer (some ⟨g,0,none⟩)] w fun e w'=>∃v0_:Value,e= .returned (v0_)∧Kd.R k163 163 w' w.heap.size (fun _=>True) v0_ r1∧IsS149 w0 w' g s0_0 r2∧Below w0.heap.size w0 w'∧KeepBut w w' g none:=by
 have HI0:=q_ hI;have HK:=q_ (KeepBut.refl w g none);have HL:=q_ hB.size;clear hI;have HW0:=q_ hB.size;have HB:=q_ hB;clear hB;have H:(if 256≤281474976710656 then((spec_l1Rd_below.f s0_0 s0_1 5).bind fun bt104=>(spec_l1Rd_class.l0 k (List.replicate 256 false) bt104.1 s0_0 bt104.2))else(none))=some (r1,r2):=h;clear h;obtain⟨c2,H⟩:=ip_ H;have c2b0:=eq_true c2;have c2b1:=dt_ c2;clear c2;generalize hy101:(List.replicate 256 false:List Bool)=y101 at H;have Ny101:=q_ hy101.symm;clear hy101;replace H:=Option.bind_eq_some_iff.mp H;obtain⟨⟨t104,t105⟩,A30,H⟩:=H;dsimp only at H;have A3:=q_ A30;clear A30;have H':=q_ H;clear H;go_enter Try.func136,Try.ntmps136
 go_wp2_with(first| ((with_reducible refine gate_dst (N:=7) rfl ?_);refine Kd.R_make Kd.bool _ 4 rfl (N:=7) rfl 119 _ _ rfl 256 rfl rfl Try.underlying119 (.bool false) 1 info4 rfl (by decide) (by omega) false (ok:=fun _=>True) (okp:=fun _=>True) rfl (fun _ hk=>hk) trivial (by omega) (by omega) (Below.refl _ _) (Nat.le_refl _) ?_;intro v102 w4 ho5 hb hg_ hnew_;clear hg_ hnew_;((simp only[Int.reduceToNat]at ho5;rw[←Ny101.o]at ho5));have O103:=q_ (Kd.R_lower ho5 (ks_ HK));replace HK:=kb_ HK hb;replace HB:=q_ (below_step (be1_ HB.o (IsS149.ge HI0.o)) hb);replace HI0:=ib_ HI0 hb;clear hb ho5)| ((with_reducible refine gate_callee (f:=66) rfl ?_);refine gl_ (some 9) rfl rfl Try.func66 #[.pointer (some ⟨g,0,none⟩), .int .i64 5] ?_;(with_reducible refine(spec_l1Rd_below.calls g s0_0 s0_1 5 t104 t105 w0 _ ?side1 ?side2 A3.o).mono ?_);(case side1=>exact si_ HI0);(case side2=>exact be1_ HB.o (IsS149.ge HI0.o));rintro e w6 ⟨rfl,hi,hb,hk⟩;refine⟨_,rfl,?_⟩;replace O103:=q_ (Kd.R_mono (Kd.R_keep (IsS149.apart (show IsS149 w0 _ g s0_0 s0_1 from si_ HI0) (ra_ O103.o) (by decide)) hk (fun _ h=>h.2)) (fun _ h=>h.1));replace HK:=kt_ HK hk;replace HB:=q_ (hb);replace HI0:=q_ (hi);clear hb))
 go_loopg [4] k (fun kq v4 w'=>∃(x3_1:List Bool) (x4_1:Int) (x1001_1:Int),v4= .int .i64 x4_1∧J0 (spec_l1Rd_class.l0 kq x3_1 x4_1 s0_0 x1001_1=some (r1,r2))∧J0 (kq≤k)∧J0 (Kd.R Kd.bool 4 w' w.heap.size (fun _=>True) v102 x3_1)∧J0 (IsS149 w0 w' g s0_0 x1001_1)∧J0 (KeepBut w w' g none)∧J0 (Below w0.heap.size w0 w'))
 case atStart=>exact⟨(y101),(t104),(t105),rs_,H',⟨Nat.le_refl _⟩,⟨ra_ O103.o⟩,⟨si_ HI0⟩,⟨kp_ HK⟩,⟨be1_ HB.o (IsS149.ge HI0.o)⟩⟩
 case round=>
  clear H';clear c2b0 c2b1;obtain⟨x3_1,x4_1,x1001_1,rfl,HA,HK1,O_3,HI0,HK,HB⟩:=hrel;cases gk with
  |zero=>exact absurd HA.o (by simp[spec_l1Rd_class.l0])
  | succ k1=>
   have H:=HA.o;clear HA;simp only[spec_l1Rd_class.l0]at H;by_cases c7:x4_1>0;rotate_left
   ·rw[iN c7]at H;have c7b0:decide (0<x4_1)=false:=df_ c7;clear c7;obtain⟨t106,A26,H⟩:=ob_ H;simp only[Option.some.injEq,Prod.mk.injEq]at H;obtain⟨rfl,rfl⟩:=H;obtain⟨Ao27,co27,eo27⟩:=Kd.R_slice O_3.o;subst eo27
    go_wp2_with(((with_reducible refine gate_callee (f:=148) rfl ?_);refine gl_ (some 38) rfl rfl Try.func148 #[.slice Ao27 x3_1.length co27] ?_;(with_reducible refine(spec_l1Class.calls k1 _ _ x3_1 t106 _ ?side1 ?side2 A26.o).mono ?_);(case side1=>exact ca_ (Kd.R_reads' O_3.o).2.2);(case side2=>exact(Kd.R_reads' O_3.o).2.1);rintro e w28 ⟨v107,rfl,ho0,hb⟩;refine⟨_,rfl,?_⟩;have O108:=q_ (Kd.R_lower ho0 (ks_ HK));replace O_3:=bR_ O_3 hb;replace HK:=kb_ HK hb;replace HB:=q_ (below_step (be1_ HB.o (IsS149.ge HI0.o)) hb);replace HI0:=ib_ HI0 hb;clear hb ho0))
    go_ret
    exact⟨_,rt_,ra_ O108.o,si_ HI0,be1_ HB.o (IsS149.ge HI0.o),kp_ HK⟩
   rw[iP c7]at H;have c7b0:decide (0<x4_1)=true:=dt_ c7;clear c7;replace H:=Option.bind_eq_some_iff.mp H;obtain⟨⟨t109,t110⟩,A80,H⟩:=H;dsimp only at H;have A8:=q_ A80;clear A80;replace H:=Option.bind_eq_some_iff.mp H;obtain⟨⟨t111,t112⟩,A90,H⟩:=H;dsimp only at H;have A9:=q_ A90;clear A90;have HC10:=q_ H;clear H
   go_upto_if 17 with(first| ((with_reducible refine gate_callee (f:=66) rfl ?_);refine gl_ (some 15) rfl rfl Try.func66 #[.pointer (some ⟨g,0,none⟩), .int .i64 256] ?_;(with_reducible refine(spec_l1Rd_below.calls g s0_0 x1001_1 256 t109 t110 w0 _ ?side1 ?side2 A8.o).mono ?_);(case side1=>exact si_ HI0);(case side2=>exact be1_ HB.o (IsS149.ge HI0.o));rintro e w11 ⟨rfl,hi,hb,hk⟩;refine⟨_,rfl,?_⟩;replace O_3:=q_ (Kd.R_mono (Kd.R_keep (IsS149.apart (show IsS149 w0 _ g s0_0 x1001_1 from si_ HI0) (ra_ O_3.o) (by decide)) hk (fun _ h=>h.2)) (fun _ h=>h.1));replace HK:=kt_ HK hk;replace HB:=q_ (hb);replace HI0:=q_ (hi);clear hb)| ((with_reducible refine gate_callee (f:=55) rfl ?_);refine gl_ (some 17) rfl rfl Try.func55 #[.pointer (some ⟨g,0,none⟩), .int .i64 2] ?_;(with_reducible refine(spec_l1Rd_once.calls g s0_0 t110 2 t111 t112 w0 _ ?side1 ?side2 A9.o).mono ?_);(case side1=>exact si_ HI0);(case side2=>exact be1_ HB.o (IsS149.ge HI0.o));rintro e w12 ⟨rfl,hi,hb,hk⟩;refine⟨_,rfl,?_⟩;replace O_3:=q_ (Kd.R_mono (Kd.R_keep (IsS149.apart (show IsS149 w0 _ g s0_0 t110 from si_ HI0) (ra_ O_3.o) (by decide)) hk (fun _ h=>h.2)) (fun _ h=>h.1));replace HK:=kt_ HK hk;replace HB:=q_ (hb);replace HI0:=q_ (hi);clear hb))
   (try simp only[Act.put,List.setIfInBounds_toArray,List.set_cons_zero,List.set_cons_succ])
   go_cut [5] (fun v5 wc=>∃(kq:Nat) (x5_9:Int) (x1001_9:Int),v5= .int .i64 x5_9∧J0 (spec_l1Rd_class.j1 kq x3_1 x4_1 x5_9 s0_0 x1001_9=some (r1,r2))∧J0 (kq≤k1)∧J0 (Kd.R Kd.bool 4 wc w.heap.size (fun _=>True) v102 x3_1)∧J0 (IsS149 w0 wc g s0_0 x1001_9)∧J0 (KeepBut w wc g none)∧J0 (Below w0.heap.size w0 wc))
   case first=>
    have H:=HC10.o;clear HC10;by_cases c13:t111=true;rotate_left
    ·replace c13:=Bool.eq_false_iff.mpr c13;subst c13;rw[iN nft_]at H;have H':=q_ H;clear H;go_wp2
     go_meet
     case rel=>exact⟨_,(t109),(t112),rs_,H',⟨by have:=HK1.o;first|omega|exact Nat.le_refl _⟩,⟨ra_ O_3.o⟩,⟨si_ HI0⟩,⟨kp_ HK⟩,⟨be1_ HB.o (IsS149.ge HI0.o)⟩⟩
    subst c13;rw[iP rfl]at H;replace H:=Option.bind_eq_some_iff.mp H;obtain⟨⟨t113,t114⟩,A140,H⟩:=H;dsimp only at H;have A14:=q_ A140;clear A140;have H':=q_ H;clear H
    go_wp2_with(((with_reducible refine gate_callee (f:=66) rfl ?_);refine gl_ (some 19) rfl rfl Try.func66 #[.pointer (some ⟨g,0,none⟩), .int .i64 8] ?_;(with_reducible refine(spec_l1Rd_below.calls g s0_0 t112 8 t113 t114 w0 _ ?side1 ?side2 A14.o).mono ?_);(case side1=>exact si_ HI0);(case side2=>exact be1_ HB.o (IsS149.ge HI0.o));rintro e w15 ⟨rfl,hi,hb,hk⟩;refine⟨_,rfl,?_⟩;replace O_3:=q_ (Kd.R_mono (Kd.R_keep (IsS149.apart (show IsS149 w0 _ g s0_0 t112 from si_ HI0) (ra_ O_3.o) (by decide)) hk (fun _ h=>h.2)) (fun _ h=>h.1));replace HK:=kt_ HK hk;replace HB:=q_ (hb);replace HI0:=q_ (hi);clear hb))
    go_meet
    case rel=>exact⟨_,(wrap64 (97+t113)),(t114),rs_,H',⟨by have:=HK1.o;first|omega|exact Nat.le_refl _⟩,⟨ra_ O_3.o⟩,⟨si_ HI0⟩,⟨kp_ HK⟩,⟨be1_ HB.o (IsS149.ge HI0.o)⟩⟩
   case rest=>
    clear HC10 c7b0;obtain⟨kq,x5_9,x1001_9,rfl,HA,HJ9,O_3,HI0,HK,HB⟩:=hcut;cases kq with
    |zero=>exact absurd HA.o (by simp[spec_l1Rd_class.j1])
    | succ kj9=>
     have H:=HA.o;clear HA;simp only[spec_l1Rd_class.j1]at H;have H':=q_ H;clear H;go_wp2
     go_loopg [6] kj9 (fun kq v6 w'=>∃(x3_3:List Bool) (x6_3:Int) (x1001_3:Int),v6= .int .i64 x6_3∧J0 (spec_l1Rd_class.l1 kq x3_3 x4_1 x5_9 x6_3 s0_0 x1001_3=some (r1,r2))∧J0 (kq≤kj9)∧J0 (Kd.R Kd.bool 4 w' w.heap.size (fun _=>True) v102 x3_3)∧J0 (IsS149 w0 w' g s0_0 x1001_3)∧J0 (KeepBut w w' g none)∧J0 (Below w0.heap.size w0 w'))
     case atStart=>exact⟨(x3_1),(x5_9),(x1001_9),rs_,H',⟨Nat.le_refl _⟩,⟨ra_ O_3.o⟩,⟨si_ HI0⟩,⟨kp_ HK⟩,⟨be1_ HB.o (IsS149.ge HI0.o)⟩⟩
     case round=>
      clear H';obtain⟨x3_3,x6_3,x1001_3,rfl,HA,HK3,O_3,HI0,HK,HB⟩:=hrel;cases gk with
      |zero=>exact absurd HA.o (by simp[spec_l1Rd_class.l1])
      | succ k3=>
       have H:=HA.o;clear HA;simp only[spec_l1Rd_class.l1]at H;by_cases c16:x6_3<256;rotate_left
       ·rw[iN c16]at H;have d16:=df_ c16;clear c16;have H':=q_ H;clear H;go_wp2
        go_roundg k3
        case measure=>have:=HK1.o;have:=HJ9.o;have:=HK3.o;omega
        case rel=>exact⟨(x3_3),(wrap64 (x4_1-1)),(x1001_3),rs_,H',⟨by have:=HK1.o;have:=HJ9.o;have:=HK3.o;omega⟩,⟨ra_ O_3.o⟩,⟨si_ HI0⟩,⟨kp_ HK⟩,⟨be1_ HB.o (IsS149.ge HI0.o)⟩⟩
       rw[iP c16]at H;have d16:=dt_ c16;clear c16;replace H:=Option.bind_eq_some_iff.mp H;obtain⟨⟨t115,t116⟩,A170,H⟩:=H;dsimp only at H;have A17:=q_ A170;clear A170;by_cases c18:x6_3≤(wrap64 (x5_9+t115));rotate_left
       ·rw[iN c18]at H;have d18:=df_ c18;clear c18;have H':=q_ H;clear H
        go_wp2_with((go_at_call 66;(with_reducible refine(spec_l1Rd_below.calls g s0_0 x1001_3 6 t115 t116 w0 _ ?side1 ?side2 A17.o).mono ?_);(case side1=>exact si_ HI0);(case side2=>exact be1_ HB.o (IsS149.ge HI0.o));rintro e w25 ⟨rfl,hi,hb,hk⟩;replace O_3:=q_ (Kd.R_mono (Kd.R_keep (IsS149.apart (show IsS149 w0 _ g s0_0 x1001_3 from si_ HI0) (ra_ O_3.o) (by decide)) hk (fun _ h=>h.2)) (fun _ h=>h.1));replace HK:=kt_ HK hk;replace HB:=q_ (hb);replace HI0:=q_ (hi);clear hb))
        go_roundg k3
        case measure=>have:=HK1.o;have:=HJ9.o;have:=HK3.o;omega
        case rel=>exact⟨(x3_3),(wrap64 (x4_1-1)),(t116),rs_,H',⟨by have:=HK1.o;have:=HJ9.o;have:=HK3.o;omega⟩,⟨ra_ O_3.o⟩,⟨si_ HI0⟩,⟨kp_ HK⟩,⟨be1_ HB.o (IsS149.ge HI0.o)⟩⟩
       rw[iP c18]at H;have d18:=dt_ c18;clear c18;obtain⟨d19,H⟩:=iq_ H;obtain⟨d20,H⟩:=iq_ H;generalize hy117:(x3_3.set (x6_3:Int).toNat true:List Bool)=y117 at H;have Ny117:=q_ hy117.symm;clear hy117;have H':=q_ H;clear H
       go_wp2_with(first| (go_at_call 66;(with_reducible refine(spec_l1Rd_below.calls g s0_0 x1001_3 6 t115 t116 w0 _ ?side1 ?side2 A17.o).mono ?_);(case side1=>exact si_ HI0);(case side2=>exact be1_ HB.o (IsS149.ge HI0.o));rintro e w22 ⟨rfl,hi,hb,hk⟩;replace O_3:=q_ (Kd.R_mono (Kd.R_keep (IsS149.apart (show IsS149 w0 _ g s0_0 x1001_3 from si_ HI0) (ra_ O_3.o) (by decide)) hk (fun _ h=>h.2)) (fun _ h=>h.1));replace HK:=kt_ HK hk;replace HB:=q_ (hb);replace HI0:=q_ (hi);clear hb;obtain⟨p21,q21⟩:=pq_ x6_3 ((x3_3.length:Int):Int);obtain⟨go21,co21,eo21,gb21,gl21,cl21,HG21⟩:=Kd.R_form O_3.o (by omega);(cases eo21);have GB21:=q_ gb21;have GG21:=q_ HG21;clear gb21 gl21 HG21;obtain⟨X21_0,hf21_0⟩:=Kd.R_celln false O_3.o (x6_3:Int) p21 q21;obtain⟨p21,q21⟩:=et_ p21 q21;obtain⟨hy23_,hz23_⟩:=Kd.R_celln false O_3.o (x6_3:Int) (ot_ as_) (ot_ as_);have HP23:=Kd.R_putg O_3.o (x6_3:Int) true)| ((with_reducible refine gate_store (t:=4) (p:=36) rfl ?_);refine store_event (t:=4) (p:=36) (v:=?vo_w24) (w1:=(w22.setCell ⟨go21,(x6_3:Int).toNat,none⟩ (.bool true))) ?hg ?ho ?hn ?hr ?_;(case ho=>rfl);(case hg=>rfl);(case hn=>rfl);(case hr=>first| (go_simp;done)| (go_simp;rfl));intro w24 hw;have hg:w22.grownBy w24 (some go21):=(by rw[hw];exact HP23.2);have hp_:Kd.R Kd.bool 4 w24 w.heap.size (fun _=>True) (.slice (some ⟨go21,0,none⟩) x3_3.length co21) y117:=(by rw[hw,Ny117.o];exact HP23.1);clear HP23;replace HI0:=q_ (IsS149.grown (si_ HI0) hg (IsS149.own_ne HI0.o O_3.o (by decide)));replace HB:=q_ ((by rw[hw];exact below_set (HB.o) (Nat.le_trans HL.o GB21.o):Below w0.heap.size w0 w24));replace HK:=q_ (KeepBut.trans (kp_ HK) (KeepBut.of_grown hg g) (Kd.R_base2 O_3.o));replace O_3:=q_ (hp_);clear hg hw hp_))
       go_roundg k3
       case measure=>have:=HK1.o;have:=HJ9.o;have:=HK3.o;omega
       case rel=>exact⟨(y117),(wrap64 (x6_3+1)),(t116),rs_,H',⟨by have:=HK1.o;have:=HJ9.o;have:=HK3.o;omega⟩,⟨ra_ O_3.o⟩,⟨si_ HI0⟩,⟨kp_ HK⟩,⟨be1_ HB.o (IsS149.ge HI0.o)⟩⟩
def spec_ClassOf.l0:Nat→ByteArray→List Bool→Int→Option ((List (S163)))
 |0,_,_,_=>none
 |k+1,x0,x3,x4=>if x4<(x0.size:Int)then(if 0≤x4 then(if 0≤(bt x0 x4)then(if(bt x0 x4)<(x3.length:Int)then(spec_ClassOf.l0 k x0 (x3.set ((bt x0 x4):Int).toNat true) (wrap64 (x4+1)))else(none))else(none))else(none))else((spec_l1Class.f k x3).bind fun t105=>(some t105))
def spec_ClassOf.f(k:Nat)(a0:ByteArray):Option ((List (S163))):=if 256≤281474976710656 then(spec_ClassOf.l0 k a0 (List.replicate 256 false) 0)else(none)
theorem spec_ClassOf.calls(k:Nat)(a0:ByteArray)(r:List (S163))(w:World)(h:spec_ClassOf.f k a0=some r):
  Calls Try.prog 141 #[.string a0] w fun e w'=>∃v0_:Value,e= .returned (v0_)∧Kd.R k163 163 w' w.heap.size (fun _=>True) v0_ r∧Below w.heap.size w w':=by
 have HB:=q_ (Below.refl w.heap.size w);have H:(if 256≤281474976710656 then(spec_ClassOf.l0 k a0 (List.replicate 256 false) 0)else(none))=some r:=h;clear h;obtain⟨c2,H⟩:=ip_ H;have c2b0:=eq_true c2;have c2b1:=dt_ c2;clear c2;generalize hy101:(List.replicate 256 false:List Bool)=y101 at H;have Ny101:=q_ hy101.symm;clear hy101;have H':=q_ H;clear H;go_enter Try.func141,Try.ntmps141
 go_wp2_with(((with_reducible refine gate_dst (N:=5) rfl ?_);refine Kd.R_make Kd.bool _ 4 rfl (N:=5) rfl 119 _ _ rfl 256 rfl rfl Try.underlying119 (.bool false) 1 info4 rfl (by decide) (by omega) false (ok:=fun _=>True) (okp:=fun _=>True) rfl (fun _ hk=>hk) trivial (by omega) (by omega) (Below.refl _ _) (Nat.le_refl _) ?_;intro v102 w3 ho4 hb hg_ hnew_;clear hg_ hnew_;((simp only[Int.reduceToNat]at ho4;rw[←Ny101.o]at ho4));have O103:=q_ (Kd.R_lower ho4 (below_size (be_ HB.o)));replace HB:=sb_ HB hb;clear hb ho4))
 go_loopg [4] k (fun kq v4 w'=>∃(x3_1:List Bool) (x4_1:Int),v4= .int .i64 x4_1∧J0 (spec_ClassOf.l0 kq a0 x3_1 x4_1=some r)∧J0 (kq≤k)∧J0 (Kd.R Kd.bool 4 w' w.heap.size (fun _=>True) v102 x3_1)∧J0 (Below w.heap.size w w'))
 case atStart=>exact⟨(y101),(0),rs_,H',⟨Nat.le_refl _⟩,⟨ra_ O103.o⟩,⟨be_ HB.o⟩⟩
 case round=>
  clear H';clear c2b0 c2b1;obtain⟨x3_1,x4_1,rfl,HA,HK1,O_3,HB⟩:=hrel;cases gk with
  |zero=>exact absurd HA.o (by simp[spec_ClassOf.l0])
  | succ k1=>
   have H:=HA.o;clear HA;simp only[spec_ClassOf.l0]at H;by_cases c5:x4_1<(a0.size:Int);rotate_left
   ·rw[iN c5]at H;have c5b0:=df_ c5;clear c5;obtain⟨t105,A13,H⟩:=ob_ H;obtain rfl:=Option.some.inj H;obtain⟨Ao14,co14,eo14⟩:=Kd.R_slice O_3.o;subst eo14
    go_wp2_with(((with_reducible refine gate_callee (f:=148) rfl ?_);refine gl_ (some 18) rfl rfl Try.func148 #[.slice Ao14 x3_1.length co14] ?_;(with_reducible refine(spec_l1Class.calls k1 _ _ x3_1 t105 _ ?side1 ?side2 A13.o).mono ?_);(case side1=>exact ca_ (Kd.R_reads' O_3.o).2.2);(case side2=>exact(Kd.R_reads' O_3.o).2.1);rintro e w15 ⟨v106,rfl,ho0,hb⟩;refine⟨_,rfl,?_⟩;have O107:=q_ (Kd.R_lower ho0 (below_size (be_ HB.o)));replace O_3:=bR_ O_3 hb;replace HB:=sb_ HB hb;clear hb ho0))
    go_ret
    exact⟨_,rt_,ra_ O107.o,be_ HB.o⟩
   rw[iP c5]at H;have c5b0:=dt_ c5;clear c5;obtain⟨c6b0,H⟩:=iq_ H;obtain⟨c8b0,H⟩:=iq_ H;obtain⟨c9b0,H⟩:=iq_ H;generalize hy104:(x3_1.set ((bt a0 x4_1):Int).toNat true:List Bool)=y104 at H;have Ny104:=q_ hy104.symm;clear hy104;have H':=q_ H;clear H;obtain⟨p7,q7⟩:=pq_ x4_1 (a0.size:Int);have hx7:=bt_at a0 x4_1;obtain⟨p7,q7⟩:=et_ p7 q7;obtain⟨p10,q10⟩:=pq_ (bt a0 x4_1) ((x3_1.length:Int):Int);obtain⟨go10,co10,eo10,gb10,gl10,cl10,HG10⟩:=Kd.R_form O_3.o (by omega);(cases eo10);have GB10:=q_ gb10;have GG10:=q_ HG10;clear gb10 gl10 HG10;obtain⟨X10_0,hf10_0⟩:=Kd.R_celln false O_3.o ((bt a0 x4_1):Int) p10 q10;obtain⟨p10,q10⟩:=et_ p10 q10;have HP11:=Kd.R_putg O_3.o ((bt a0 x4_1):Int) true
   go_wp2_with(((with_reducible refine gate_store (t:=4) (p:=16) rfl ?_);refine store_event (t:=4) (p:=16) (v:=?vo_w12) (w1:=(wr.setCell ⟨go10,((bt a0 x4_1):Int).toNat,none⟩ (.bool true))) ?hg ?ho ?hn ?hr ?_;(case ho=>rfl);(case hg=>rfl);(case hn=>rfl);(case hr=>first| (go_simp;done)| (go_simp;rfl));intro w12 hw;have hg:wr.grownBy w12 (some go10):=(by rw[hw];exact HP11.2);have hp_:Kd.R Kd.bool 4 w12 w.heap.size (fun _=>True) (.slice (some ⟨go10,0,none⟩) x3_1.length co10) y104:=(by rw[hw,Ny104.o];exact HP11.1);clear HP11;replace O_3:=q_ (hp_);replace HB:=q_ ((by rw[hw];exact below_set (HB.o) GB10.out:Below w.heap.size w w12));clear hg hw hp_))
   go_roundg k1
   case measure=>have:=HK1.o;omega
   case rel=>exact⟨(y104),(wrap64 (x4_1+1)),rs_,H',⟨by have:=HK1.o;omega⟩,⟨ra_ O_3.o⟩,⟨be_ HB.o⟩⟩
mutual
def spec_l1Both.j0:Nat→List (S163)→List (S163)→Int→Bool→Option ((List (S163)))
 |0,_,_,_,_=>none
 |k+1,x0,x1,x2,x17=>if x17=true then(some (([]:List (S163))))else((spec_l1Marks.f k x0).bind fun t106=>((spec_l1Marks.f k x1).bind fun t109=>(spec_l1Both.l0 k x2 t106 t109 0)))
def spec_l1Both.l0:Nat→Int→List Bool→List Bool→Int→Option ((List (S163)))
 |0,_,_,_,_=>none
 |k+1,x2,x7,x8,x9=>if x9<256 then(if x2=0 then(if 0≤x9 then(if x9<(x7.length:Int)then(if rdOf false x7 x9=true then(spec_l1Both.l0 k x2 (x7.set (x9:Int).toNat true) x8 (wrap64 (x9+1)))else(if x9<(x8.length:Int)then(spec_l1Both.l0 k x2 (x7.set (x9:Int).toNat (rdOf false x8 x9)) x8 (wrap64 (x9+1)))else(none)))else(none))else(none))else(if x2=1 then(if 0≤x9 then(if x9<(x7.length:Int)then(if rdOf false x7 x9=true then(if x9<(x8.length:Int)then(spec_l1Both.l0 k x2 (x7.set (x9:Int).toNat (rdOf false x8 x9)) x8 (wrap64 (x9+1)))else(none))else(spec_l1Both.l0 k x2 (x7.set (x9:Int).toNat false) x8 (wrap64 (x9+1))))else(none))else(none))else(if x2=2 then(if 0≤x9 then(if x9<(x7.length:Int)then(if rdOf false x7 x9=true then(if x9<(x8.length:Int)then(spec_l1Both.l0 k x2 (x7.set (x9:Int).toNat (!(rdOf false x8 x9))) x8 (wrap64 (x9+1)))else(none))else(spec_l1Both.l0 k x2 (x7.set (x9:Int).toNat false) x8 (wrap64 (x9+1))))else(none))else(none))else(spec_l1Both.l0 k x2 x7 x8 (wrap64 (x9+1))))))else((spec_l1Class.f k x7).bind fun t112=>(some t112))
end
def spec_l1Both.f(k:Nat)(l0:List (S163))(l1:List (S163))(a2:Int):Option ((List (S163))):=(spec_ClassOk.f k l0).bind fun t101=>(if t101=true then((spec_ClassOk.f k l1).bind fun t102=>(spec_l1Both.j0 k l0 l1 a2 (!t102)))else(spec_l1Both.j0 k l0 l1 a2 true))
theorem spec_l1Both.calls(k:Nat)(A0:Option Addr)(c0:Nat)(l0:List (S163))(A1:Option Addr)(c1:Nat)(l1:List (S163))(a2:Int)(r:List (S163))(w:World)(hr0:Kd.C k163 w A0 l0.length l0)(hc0:l0.length≤c0)(hr1:Kd.C k163 w A1 l1.length l1)(hc1:l1.length≤c1)(h:spec_l1Both.f k l0 l1 a2=some r):
  Calls Try.prog 156 #[.slice A0 l0.length c0, .slice A1 l1.length c1, .int .i64 a2] w fun e w'=>∃v0_:Value,e= .returned (v0_)∧Kd.R k163 163 w' w.heap.size (fun _=>True) v0_ r∧Below w.heap.size w w':=by
 have HR0:=q_ hr0;have HC0:=q_ hc0;clear hr0 hc0;have HR1:=q_ hr1;have HC1:=q_ hc1;clear hr1 hc1;have HB:=q_ (Below.refl w.heap.size w);have H:((spec_ClassOk.f k l0).bind fun t101=>(if t101=true then((spec_ClassOk.f k l1).bind fun t102=>(spec_l1Both.j0 k l0 l1 a2 (!t102)))else(spec_l1Both.j0 k l0 l1 a2 true)))=some r:=h;clear h;have HC4:=q_ H;clear H;go_enter Try.func156,Try.ntmps156;go_upto_region 1 with(fail)
 go_cut [17] (fun v17 wc=>∃(kq:Nat) (x17_3:Bool),v17= .bool x17_3∧J0 (spec_l1Both.j0 kq l0 l1 a2 x17_3=some r)∧J0 (kq≤k)∧J0 (Below w.heap.size w wc))
 case first=>
  have H:=HC4.o;clear HC4;obtain⟨t101,A5,H⟩:=ob_ H;by_cases c6:t101=true;rotate_left
  ·replace c6:=Bool.eq_false_iff.mpr c6;subst c6;rw[iN nft_]at H;have H':=q_ H;clear H
   go_wp2_with(((with_reducible refine gate_callee (f:=116) rfl ?_);refine gl_ (some 11) rfl rfl Try.func116 #[.slice A0 l0.length c0] ?_;(with_reducible refine(spec_ClassOk.calls k _ _ l0 false _ ?side1 ?side2 A5.o).mono ?_);(case side1=>exact Kd.C_below HR0.o (be_ HB.o));(case side2=>exact HC0.o);rintro e w10 ⟨rfl,hb⟩;refine⟨_,rfl,?_⟩;replace HB:=sb_ HB hb;clear hb))
   go_meet
   case rel=>exact⟨_,(true),rs_,H',⟨by omega⟩,⟨be_ HB.o⟩⟩
  subst c6;rw[iP rfl]at H;obtain⟨t102,A7,H⟩:=ob_ H;have H':=q_ H;clear H
  go_wp2_with(first| ((with_reducible refine gate_callee (f:=116) rfl ?_);refine gl_ (some 11) rfl rfl Try.func116 #[.slice A0 l0.length c0] ?_;(with_reducible refine(spec_ClassOk.calls k _ _ l0 true _ ?side1 ?side2 A5.o).mono ?_);(case side1=>exact Kd.C_below HR0.o (be_ HB.o));(case side2=>exact HC0.o);rintro e w8 ⟨rfl,hb⟩;refine⟨_,rfl,?_⟩;replace HB:=sb_ HB hb;clear hb)| (go_at_call 116;(with_reducible refine(spec_ClassOk.calls k _ _ l1 t102 _ ?side1 ?side2 A7.o).mono ?_);(case side1=>exact Kd.C_below HR1.o (be_ HB.o));(case side2=>exact HC1.o);rintro e w9 ⟨rfl,hb⟩;replace HB:=sb_ HB hb;clear hb))
  go_meet
  case rel=>exact⟨_,(!t102),rs_,H',⟨by omega⟩,⟨be_ HB.o⟩⟩
 case rest=>
  clear HC4;obtain⟨kq,x17_3,rfl,HA,HJ3,HB⟩:=hcut;cases kq with
  |zero=>exact absurd HA.o (by simp[spec_l1Both.j0])
  | succ kj3=>
   have H:=HA.o;clear HA;simp only[spec_l1Both.j0]at H;by_cases c11:x17_3=true
   ·subst c11;rw[iP rfl]at H;generalize hy103:([]:List (S163))=y103 at H;have Ny103:=q_ hy103.symm;clear hy103;obtain rfl:=Option.some.inj H
    go_wp2_with(((with_reducible refine gate_dst (N:=18) rfl ?_);refine Kd.R_lit k163 _ 163 ?hg (N:=18) ?hd (xs:=([]:List (S163))) (inner:=[]) (ok:=fun _=>True) (okp:=fun _=>True) ?hr ?hp (fun _ hk=>hk) trivial (Below.refl _ _) (Nat.le_refl _) (by simp) ?_;(case hd=>rfl);(case hg=>rfl);(case hr=>first| (go_simp;done)| (go_simp;rfl));(case hp=>exact(Reps.none _ _));intro v104 w12 ho13 hb hg_ hnew_;clear hg_ hnew_;(rw[←Ny103.o]at ho13);have O105:=q_ (Kd.R_lower ho13 (below_size (be_ HB.o)));replace HB:=sb_ HB hb;clear hb ho13))
    go_ret
    exact⟨_,rt_,ra_ O105.o,be_ HB.o⟩
   replace c11:=Bool.eq_false_iff.mpr c11;subst c11;rw[iN nft_]at H;obtain⟨t106,A14,H⟩:=ob_ H;obtain⟨t109,A15,H⟩:=ob_ H;have H':=q_ H;clear H
   go_wp2_with(first| ((with_reducible refine gate_callee (f:=117) rfl ?_);refine gl_ (some 20) rfl rfl Try.func117 #[.slice A0 l0.length c0] ?_;(with_reducible refine(spec_l1Marks.calls kj3 _ _ l0 t106 _ ?side1 ?side2 A14.o).mono ?_);(case side1=>exact Kd.C_below HR0.o (be_ HB.o));(case side2=>exact HC0.o);rintro e w16 ⟨v107,rfl,ho0,hb⟩;refine⟨_,rfl,?_⟩;have O108:=q_ (Kd.R_lower ho0 (below_size (be_ HB.o)));replace HB:=sb_ HB hb;clear hb ho0)| ((with_reducible refine gate_callee (f:=117) rfl ?_);refine gl_ (some 22) rfl rfl Try.func117 #[.slice A1 l1.length c1] ?_;(with_reducible refine(spec_l1Marks.calls kj3 _ _ l1 t109 _ ?side1 ?side2 A15.o).mono ?_);(case side1=>exact Kd.C_below HR1.o (be_ HB.o));(case side2=>exact HC1.o);rintro e w17 ⟨v110,rfl,ho0,hb⟩;refine⟨_,rfl,?_⟩;have O111:=q_ (Kd.R_lower (Kd.R_new' ho0 (Kd.R_lt (ra_ O108.o))) (below_size (be_ HB.o)));replace O108:=eR_ O108 (Kd.R_base ho0) hb;replace HB:=sb_ HB hb;clear hb ho0))
   go_loopg [9] kj3 (fun kq v9 w'=>∃(x7_2:List Bool) (x9_2:Int),v9= .int .i64 x9_2∧J0 (spec_l1Both.l0 kq a2 x7_2 t109 x9_2=some r)∧J0 (kq≤kj3)∧J0 (Kd.R Kd.bool 4 w' w.heap.size (fun k_=>some k_≠(v110:Value).ownBlock) v107 x7_2)∧J0 (Kd.R Kd.bool 4 w' w.heap.size (fun k_=>some k_≠(v107:Value).ownBlock) v110 t109)∧J0 (Below w.heap.size w w'))
   case atStart=>exact⟨(t106),(0),rs_,H',⟨Nat.le_refl _⟩,⟨mR_ O108 (fun _ hk=>hk.2)⟩,⟨mR_ O111 (fun _ hk=>hk.2)⟩,⟨be_ HB.o⟩⟩
   case round=>
    clear H';obtain⟨x7_2,x9_2,rfl,HA,HK2,O_7,O_8,HB⟩:=hrel;cases gk with
    |zero=>exact absurd HA.o (by simp[spec_l1Both.l0])
    | succ k2=>
     have H:=HA.o;clear HA;simp only[spec_l1Both.l0]at H;by_cases c18:x9_2<256;rotate_left
     ·rw[iN c18]at H;have d18:=df_ c18;clear c18;obtain⟨t112,A64,H⟩:=ob_ H;obtain rfl:=Option.some.inj H;obtain⟨Ao65,co65,eo65⟩:=Kd.R_slice O_7.o;subst eo65
      go_wp2_with(((with_reducible refine gate_callee (f:=148) rfl ?_);refine gl_ (some 75) rfl rfl Try.func148 #[.slice Ao65 x7_2.length co65] ?_;(with_reducible refine(spec_l1Class.calls k2 _ _ x7_2 t112 _ ?side1 ?side2 A64.o).mono ?_);(case side1=>exact ca_ (Kd.R_reads' O_7.o).2.2);(case side2=>exact(Kd.R_reads' O_7.o).2.1);rintro e w66 ⟨v113,rfl,ho0,hb⟩;refine⟨_,rfl,?_⟩;have O114:=q_ (Kd.R_lower ho0 (below_size (be_ HB.o)));replace O_7:=bR_ O_7 hb;replace O_8:=bR_ O_8 hb;replace HB:=sb_ HB hb;clear hb ho0))
      go_ret
      exact⟨_,rt_,ra_ O114.o,be_ HB.o⟩
     rw[iP c18]at H;have d18:=dt_ c18;clear c18;by_cases c19:a2=0
     ·rw[iP c19]at H;have d19:(a2==0)=true:=beq_iff_eq.mpr c19;have c19b1:(a2 != 0)=false:=bne_eq_false_iff_eq.mpr c19;clear c19;obtain⟨d20,H⟩:=iq_ H;obtain⟨d21,H⟩:=iq_ H;obtain⟨bq22,hbq22⟩:∃b_:Bool,b_=(rdOf false x7_2 x9_2):=⟨_,rfl⟩
      replace H:(if bq22=true then(spec_l1Both.l0 k2 a2 (x7_2.set (x9_2:Int).toNat true) t109 (wrap64 (x9_2+1)))else(if x9_2<(t109.length:Int)then(spec_l1Both.l0 k2 a2 (x7_2.set (x9_2:Int).toNat (rdOf false t109 x9_2)) t109 (wrap64 (x9_2+1)))else(none)))=some r:=by rw[←hbq22]at H;exact H
      have Nbq22:=q_ hbq22;clear hbq22;by_cases c23:bq22=true
      ·subst c23;rw[iP rfl]at H;generalize hy116:(x7_2.set (x9_2:Int).toNat true:List Bool)=y116 at H;have Ny116:=q_ hy116.symm;clear hy116;have H':=q_ H;clear H;obtain⟨Ao25,co25,eo25⟩:=Kd.R_slice O_7.o;subst eo25;obtain⟨p115,q115⟩:=pq_ x9_2 (x7_2.length:Int);obtain⟨ad115,e115,X115_0⟩:=Kd.at_bool (Kd.R_reads' O_7.o).2.2 x9_2 p115 q115
       (try rw[←Nbq22.o]at X115_0)
       cases e115;obtain⟨p115,q115⟩:=et_ p115 q115;obtain⟨p24,q24⟩:=pq_ x9_2 ((x7_2.length:Int):Int);obtain⟨go24,co24,eo24,gb24,gl24,cl24,HG24⟩:=Kd.R_form O_7.o (by omega);(cases eo24);have GB24:=q_ gb24;have GG24:=q_ HG24;clear gb24 gl24 HG24
       (simp only[add_plain]at X115_0)
       obtain⟨X24_0,hf24_0⟩:=Kd.R_celln false O_7.o (x9_2:Int) p24 q24;obtain⟨p24,q24⟩:=et_ p24 q24;have HP26:=Kd.R_putg O_7.o (x9_2:Int) true
       go_wp2_with(((with_reducible refine gate_store (t:=4) (p:=42) rfl ?_);refine store_event (t:=4) (p:=42) (v:=?vo_w27) (w1:=(wr.setCell ⟨go24,(x9_2:Int).toNat,none⟩ (.bool true))) ?hg ?ho ?hn ?hr ?_;(case ho=>rfl);(case hg=>rfl);(case hn=>rfl);(case hr=>first| (go_simp;done)| (go_simp;rfl));intro w27 hw;have hg:wr.grownBy w27 (some go24):=(by rw[hw];exact HP26.2);have hp_:Kd.R Kd.bool 4 w27 w.heap.size (fun k_=>some k_≠(v110:Value).ownBlock) (.slice (some ⟨go24,0,none⟩) x7_2.length co25) y116:=(by rw[hw,Ny116.o];exact HP26.1);clear HP26;replace O_7:=q_ (hp_);replace O_8:=q_ (Kd.R_after (v:=(.slice (some ⟨go24,0,none⟩) x7_2.length co25)) (v1:=(.slice (some ⟨go24,0,none⟩) x7_2.length co25)) (ok:=(fun _=>True)) (mR_ O_8 (fun _ hk=>⟨trivial,hk⟩)) hg (.inl rfl));replace HB:=q_ ((by rw[hw];exact below_set (HB.o) GB24.out:Below w.heap.size w w27));clear hg hw hp_))
       go_roundg k2
       case measure=>have:=HJ3.o;have:=HK2.o;omega
       case rel=>exact⟨(y116),(wrap64 (x9_2+1)),rs_,H',⟨by have:=HJ3.o;have:=HK2.o;omega⟩,⟨ra_ O_7.o⟩,⟨mR_ O_8 (fun _ hk=>hk.2)⟩,⟨be_ HB.o⟩⟩
      replace c23:=Bool.eq_false_iff.mpr c23;subst c23;rw[iN nft_]at H;obtain⟨d28,H⟩:=iq_ H;generalize hy118:(x7_2.set (x9_2:Int).toNat (rdOf false t109 x9_2):List Bool)=y118 at H;have Ny118:=q_ hy118.symm;clear hy118;have H':=q_ H;clear H;obtain⟨Ao30,co30,eo30⟩:=Kd.R_slice O_7.o;subst eo30;obtain⟨p115,q115⟩:=pq_ x9_2 (x7_2.length:Int);obtain⟨ad115,e115,X115_0⟩:=Kd.at_bool (Kd.R_reads' O_7.o).2.2 x9_2 p115 q115
      (try rw[←Nbq22.o]at X115_0)
      cases e115;obtain⟨p115,q115⟩:=et_ p115 q115;obtain⟨Ao31,co31,eo31⟩:=Kd.R_slice O_8.o;subst eo31;obtain⟨p117,q117⟩:=pq_ x9_2 (t109.length:Int);obtain⟨ad117,e117,X117_0⟩:=Kd.at_bool (Kd.R_reads' O_8.o).2.2 x9_2 p117 q117;cases e117;obtain⟨p117,q117⟩:=et_ p117 q117;obtain⟨p29,q29⟩:=pq_ x9_2 ((x7_2.length:Int):Int);obtain⟨go29,co29,eo29,gb29,gl29,cl29,HG29⟩:=Kd.R_form O_7.o (by omega);(cases eo29);have GB29:=q_ gb29;have GG29:=q_ HG29;clear gb29 gl29 HG29
      (simp only[add_plain]at X115_0)
      obtain⟨X29_0,hf29_0⟩:=Kd.R_celln false O_7.o (x9_2:Int) p29 q29;obtain⟨p29,q29⟩:=et_ p29 q29;have HP32:=Kd.R_putg O_7.o (x9_2:Int) (rdOf false t109 x9_2)
      go_wp2_with(((with_reducible refine gate_store (t:=4) (p:=42) rfl ?_);refine store_event (t:=4) (p:=42) (v:=?vo_w33) (w1:=(wr.setCell ⟨go29,(x9_2:Int).toNat,none⟩ (.bool (rdOf false t109 x9_2)))) ?hg ?ho ?hn ?hr ?_;(case ho=>rfl);(case hg=>rfl);(case hn=>rfl);(case hr=>first| (go_simp;done)| (go_simp;rfl));intro w33 hw;have hg:wr.grownBy w33 (some go29):=(by rw[hw];exact HP32.2);have hp_:Kd.R Kd.bool 4 w33 w.heap.size (fun k_=>some k_≠(.slice (some ad117) t109.length co31:Value).ownBlock) (.slice (some ⟨go29,0,none⟩) x7_2.length co30) y118:=(by rw[hw,Ny118.o];exact HP32.1);clear HP32;replace O_7:=q_ (hp_);replace O_8:=q_ (Kd.R_after (v:=(.slice (some ⟨go29,0,none⟩) x7_2.length co30)) (v1:=(.slice (some ⟨go29,0,none⟩) x7_2.length co30)) (ok:=(fun _=>True)) (mR_ O_8 (fun _ hk=>⟨trivial,hk⟩)) hg (.inl rfl));replace HB:=q_ ((by rw[hw];exact below_set (HB.o) GB29.out:Below w.heap.size w w33));clear hg hw hp_))
      go_roundg k2
      case measure=>have:=HJ3.o;have:=HK2.o;omega
      case rel=>exact⟨(y118),(wrap64 (x9_2+1)),rs_,H',⟨by have:=HJ3.o;have:=HK2.o;omega⟩,⟨ra_ O_7.o⟩,⟨mR_ O_8 (fun _ hk=>hk.2)⟩,⟨be_ HB.o⟩⟩
     rw[iN c19]at H;have d19:(a2==0)=false:=beq_eq_false_iff_ne.mpr c19;have c19b1:(a2 != 0)=true:=bne_iff_ne.mpr c19;by_cases c34:a2=1
     ·rw[iP c34]at H;have d34:(a2==1)=true:=beq_iff_eq.mpr c34;have c34b1:(a2 != 1)=false:=bne_eq_false_iff_eq.mpr c34;clear c34;obtain⟨d35,H⟩:=iq_ H;obtain⟨d36,H⟩:=iq_ H;obtain⟨bq37,hbq37⟩:∃b_:Bool,b_=(rdOf false x7_2 x9_2):=⟨_,rfl⟩
      replace H:(if bq37=true then(if x9_2<(t109.length:Int)then(spec_l1Both.l0 k2 a2 (x7_2.set (x9_2:Int).toNat (rdOf false t109 x9_2)) t109 (wrap64 (x9_2+1)))else(none))else(spec_l1Both.l0 k2 a2 (x7_2.set (x9_2:Int).toNat false) t109 (wrap64 (x9_2+1))))=some r:=by rw[←hbq37]at H;exact H
      have Nbq37:=q_ hbq37;clear hbq37;by_cases c38:bq37=true;rotate_left
      ·replace c38:=Bool.eq_false_iff.mpr c38;subst c38;rw[iN nft_]at H;generalize hy122:(x7_2.set (x9_2:Int).toNat false:List Bool)=y122 at H;have Ny122:=q_ hy122.symm;clear hy122;have H':=q_ H;clear H;obtain⟨Ao46,co46,eo46⟩:=Kd.R_slice O_7.o;subst eo46;obtain⟨p119,q119⟩:=pq_ x9_2 (x7_2.length:Int);obtain⟨ad119,e119,X119_0⟩:=Kd.at_bool (Kd.R_reads' O_7.o).2.2 x9_2 p119 q119
       (try rw[←Nbq37.o]at X119_0)
       cases e119;obtain⟨p119,q119⟩:=et_ p119 q119;obtain⟨p45,q45⟩:=pq_ x9_2 ((x7_2.length:Int):Int);obtain⟨go45,co45,eo45,gb45,gl45,cl45,HG45⟩:=Kd.R_form O_7.o (by omega);(cases eo45);have GB45:=q_ gb45;have GG45:=q_ HG45;clear gb45 gl45 HG45
       (simp only[add_plain]at X119_0)
       obtain⟨X45_0,hf45_0⟩:=Kd.R_celln false O_7.o (x9_2:Int) p45 q45;obtain⟨p45,q45⟩:=et_ p45 q45;have HP47:=Kd.R_putg O_7.o (x9_2:Int) false
       go_wp2_with(((with_reducible refine gate_store (t:=4) (p:=57) rfl ?_);refine store_event (t:=4) (p:=57) (v:=?vo_w48) (w1:=(wr.setCell ⟨go45,(x9_2:Int).toNat,none⟩ (.bool false))) ?hg ?ho ?hn ?hr ?_;(case ho=>rfl);(case hg=>rfl);(case hn=>rfl);(case hr=>first| (go_simp;done)| (go_simp;rfl));intro w48 hw;have hg:wr.grownBy w48 (some go45):=(by rw[hw];exact HP47.2);have hp_:Kd.R Kd.bool 4 w48 w.heap.size (fun k_=>some k_≠(v110:Value).ownBlock) (.slice (some ⟨go45,0,none⟩) x7_2.length co46) y122:=(by rw[hw,Ny122.o];exact HP47.1);clear HP47;replace O_7:=q_ (hp_);replace O_8:=q_ (Kd.R_after (v:=(.slice (some ⟨go45,0,none⟩) x7_2.length co46)) (v1:=(.slice (some ⟨go45,0,none⟩) x7_2.length co46)) (ok:=(fun _=>True)) (mR_ O_8 (fun _ hk=>⟨trivial,hk⟩)) hg (.inl rfl));replace HB:=q_ ((by rw[hw];exact below_set (HB.o) GB45.out:Below w.heap.size w w48));clear hg hw hp_))
       go_roundg k2
       case measure=>have:=HJ3.o;have:=HK2.o;omega
       case rel=>exact⟨(y122),(wrap64 (x9_2+1)),rs_,H',⟨by have:=HJ3.o;have:=HK2.o;omega⟩,⟨ra_ O_7.o⟩,⟨mR_ O_8 (fun _ hk=>hk.2)⟩,⟨be_ HB.o⟩⟩
      subst c38;rw[iP rfl]at H;obtain⟨d39,H⟩:=iq_ H;generalize hy121:(x7_2.set (x9_2:Int).toNat (rdOf false t109 x9_2):List Bool)=y121 at H;have Ny121:=q_ hy121.symm;clear hy121;have H':=q_ H;clear H;obtain⟨Ao41,co41,eo41⟩:=Kd.R_slice O_7.o;subst eo41;obtain⟨p119,q119⟩:=pq_ x9_2 (x7_2.length:Int);obtain⟨ad119,e119,X119_0⟩:=Kd.at_bool (Kd.R_reads' O_7.o).2.2 x9_2 p119 q119
      (try rw[←Nbq37.o]at X119_0)
      cases e119;obtain⟨p119,q119⟩:=et_ p119 q119;obtain⟨Ao42,co42,eo42⟩:=Kd.R_slice O_8.o;subst eo42;obtain⟨p120,q120⟩:=pq_ x9_2 (t109.length:Int);obtain⟨ad120,e120,X120_0⟩:=Kd.at_bool (Kd.R_reads' O_8.o).2.2 x9_2 p120 q120;cases e120;obtain⟨p120,q120⟩:=et_ p120 q120;obtain⟨p40,q40⟩:=pq_ x9_2 ((x7_2.length:Int):Int);obtain⟨go40,co40,eo40,gb40,gl40,cl40,HG40⟩:=Kd.R_form O_7.o (by omega);(cases eo40);have GB40:=q_ gb40;have GG40:=q_ HG40;clear gb40 gl40 HG40
      (simp only[add_plain]at X119_0)
      obtain⟨X40_0,hf40_0⟩:=Kd.R_celln false O_7.o (x9_2:Int) p40 q40;obtain⟨p40,q40⟩:=et_ p40 q40;have HP43:=Kd.R_putg O_7.o (x9_2:Int) (rdOf false t109 x9_2)
      go_wp2_with(((with_reducible refine gate_store (t:=4) (p:=57) rfl ?_);refine store_event (t:=4) (p:=57) (v:=?vo_w44) (w1:=(wr.setCell ⟨go40,(x9_2:Int).toNat,none⟩ (.bool (rdOf false t109 x9_2)))) ?hg ?ho ?hn ?hr ?_;(case ho=>rfl);(case hg=>rfl);(case hn=>rfl);(case hr=>first| (go_simp;done)| (go_simp;rfl));intro w44 hw;have hg:wr.grownBy w44 (some go40):=(by rw[hw];exact HP43.2);have hp_:Kd.R Kd.bool 4 w44 w.heap.size (fun k_=>some k_≠(.slice (some ad120) t109.length co42:Value).ownBlock) (.slice (some ⟨go40,0,none⟩) x7_2.length co41) y121:=(by rw[hw,Ny121.o];exact HP43.1);clear HP43;replace O_7:=q_ (hp_);replace O_8:=q_ (Kd.R_after (v:=(.slice (some ⟨go40,0,none⟩) x7_2.length co41)) (v1:=(.slice (some ⟨go40,0,none⟩) x7_2.length co41)) (ok:=(fun _=>True)) (mR_ O_8 (fun _ hk=>⟨trivial,hk⟩)) hg (.inl rfl));replace HB:=q_ ((by rw[hw];exact below_set (HB.o) GB40.out:Below w.heap.size w w44));clear hg hw hp_))
      go_roundg k2
      case measure=>have:=HJ3.o;have:=HK2.o;omega
      case rel=>exact⟨(y121),(wrap64 (x9_2+1)),rs_,H',⟨by have:=HJ3.o;have:=HK2.o;omega⟩,⟨ra_ O_7.o⟩,⟨mR_ O_8 (fun _ hk=>hk.2)⟩,⟨be_ HB.o⟩⟩
     rw[iN c34]at H;have d34:(a2==1)=false:=beq_eq_false_iff_ne.mpr c34;have c34b1:(a2 != 1)=true:=bne_iff_ne.mpr c34;by_cases c49:a2=2;rotate_left
     ·rw[iN c49]at H;have d49:(a2==2)=false:=beq_eq_false_iff_ne.mpr c49;have c49b1:(a2 != 2)=true:=bne_iff_ne.mpr c49;have H':=q_ H;clear H;go_wp2
      go_roundg k2
      case measure=>have:=HJ3.o;have:=HK2.o;omega
      case rel=>exact⟨(x7_2),(wrap64 (x9_2+1)),rs_,H',⟨by have:=HJ3.o;have:=HK2.o;omega⟩,⟨ra_ O_7.o⟩,⟨ra_ O_8.o⟩,⟨be_ HB.o⟩⟩
     rw[iP c49]at H;have d49:(a2==2)=true:=beq_iff_eq.mpr c49;have c49b1:(a2 != 2)=false:=bne_eq_false_iff_eq.mpr c49;clear c49;obtain⟨d50,H⟩:=iq_ H;obtain⟨d51,H⟩:=iq_ H;obtain⟨bq52,hbq52⟩:∃b_:Bool,b_=(rdOf false x7_2 x9_2):=⟨_,rfl⟩;replace H:(if bq52=true then(if x9_2<(t109.length:Int)then(spec_l1Both.l0 k2 a2 (x7_2.set (x9_2:Int).toNat (!(rdOf false t109 x9_2))) t109 (wrap64 (x9_2+1)))else(none))else(spec_l1Both.l0 k2 a2 (x7_2.set (x9_2:Int).toNat false) t109 (wrap64 (x9_2+1))))=some r:=by rw[←hbq52]at H;exact H
     have Nbq52:=q_ hbq52;clear hbq52;by_cases c53:bq52=true;rotate_left
     ·replace c53:=Bool.eq_false_iff.mpr c53;subst c53;rw[iN nft_]at H;generalize hy126:(x7_2.set (x9_2:Int).toNat false:List Bool)=y126 at H;have Ny126:=q_ hy126.symm;clear hy126;have H':=q_ H;clear H;obtain⟨Ao61,co61,eo61⟩:=Kd.R_slice O_7.o;subst eo61;obtain⟨p123,q123⟩:=pq_ x9_2 (x7_2.length:Int);obtain⟨ad123,e123,X123_0⟩:=Kd.at_bool (Kd.R_reads' O_7.o).2.2 x9_2 p123 q123
      (try rw[←Nbq52.o]at X123_0)
      cases e123;obtain⟨p123,q123⟩:=et_ p123 q123;obtain⟨p60,q60⟩:=pq_ x9_2 ((x7_2.length:Int):Int);obtain⟨go60,co60,eo60,gb60,gl60,cl60,HG60⟩:=Kd.R_form O_7.o (by omega);(cases eo60);have GB60:=q_ gb60;have GG60:=q_ HG60;clear gb60 gl60 HG60
      (simp only[add_plain]at X123_0)
      obtain⟨X60_0,hf60_0⟩:=Kd.R_celln false O_7.o (x9_2:Int) p60 q60;obtain⟨p60,q60⟩:=et_ p60 q60;have HP62:=Kd.R_putg O_7.o (x9_2:Int) false
      go_wp2_with(((with_reducible refine gate_store (t:=4) (p:=73) rfl ?_);refine store_event (t:=4) (p:=73) (v:=?vo_w63) (w1:=(wr.setCell ⟨go60,(x9_2:Int).toNat,none⟩ (.bool false))) ?hg ?ho ?hn ?hr ?_;(case ho=>rfl);(case hg=>rfl);(case hn=>rfl);(case hr=>first| (go_simp;done)| (go_simp;rfl));intro w63 hw;have hg:wr.grownBy w63 (some go60):=(by rw[hw];exact HP62.2);have hp_:Kd.R Kd.bool 4 w63 w.heap.size (fun k_=>some k_≠(v110:Value).ownBlock) (.slice (some ⟨go60,0,none⟩) x7_2.length co61) y126:=(by rw[hw,Ny126.o];exact HP62.1);clear HP62;replace O_7:=q_ (hp_);replace O_8:=q_ (Kd.R_after (v:=(.slice (some ⟨go60,0,none⟩) x7_2.length co61)) (v1:=(.slice (some ⟨go60,0,none⟩) x7_2.length co61)) (ok:=(fun _=>True)) (mR_ O_8 (fun _ hk=>⟨trivial,hk⟩)) hg (.inl rfl));replace HB:=q_ ((by rw[hw];exact below_set (HB.o) GB60.out:Below w.heap.size w w63));clear hg hw hp_))
      go_roundg k2
      case measure=>have:=HJ3.o;have:=HK2.o;omega
      case rel=>exact⟨(y126),(wrap64 (x9_2+1)),rs_,H',⟨by have:=HJ3.o;have:=HK2.o;omega⟩,⟨ra_ O_7.o⟩,⟨mR_ O_8 (fun _ hk=>hk.2)⟩,⟨be_ HB.o⟩⟩
     subst c53;rw[iP rfl]at H;obtain⟨d54,H⟩:=iq_ H;generalize hy125:(x7_2.set (x9_2:Int).toNat (!(rdOf false t109 x9_2)):List Bool)=y125 at H;have Ny125:=q_ hy125.symm;clear hy125;have H':=q_ H;clear H;obtain⟨Ao56,co56,eo56⟩:=Kd.R_slice O_7.o;subst eo56;obtain⟨p123,q123⟩:=pq_ x9_2 (x7_2.length:Int);obtain⟨ad123,e123,X123_0⟩:=Kd.at_bool (Kd.R_reads' O_7.o).2.2 x9_2 p123 q123
     (try rw[←Nbq52.o]at X123_0)
     cases e123;obtain⟨p123,q123⟩:=et_ p123 q123;obtain⟨Ao57,co57,eo57⟩:=Kd.R_slice O_8.o;subst eo57;obtain⟨p124,q124⟩:=pq_ x9_2 (t109.length:Int);obtain⟨ad124,e124,X124_0⟩:=Kd.at_bool (Kd.R_reads' O_8.o).2.2 x9_2 p124 q124;cases e124;obtain⟨p124,q124⟩:=et_ p124 q124;obtain⟨p55,q55⟩:=pq_ x9_2 ((x7_2.length:Int):Int);obtain⟨go55,co55,eo55,gb55,gl55,cl55,HG55⟩:=Kd.R_form O_7.o (by omega);(cases eo55);have GB55:=q_ gb55;have GG55:=q_ HG55;clear gb55 gl55 HG55
     (simp only[add_plain]at X123_0)
     obtain⟨X55_0,hf55_0⟩:=Kd.R_celln false O_7.o (x9_2:Int) p55 q55;obtain⟨p55,q55⟩:=et_ p55 q55;have HP58:=Kd.R_putg O_7.o (x9_2:Int) (!(rdOf false t109 x9_2))
     go_wp2_with(((with_reducible refine gate_store (t:=4) (p:=73) rfl ?_);refine store_event (t:=4) (p:=73) (v:=?vo_w59) (w1:=(wr.setCell ⟨go55,(x9_2:Int).toNat,none⟩ (.bool (!(rdOf false t109 x9_2))))) ?hg ?ho ?hn ?hr ?_;(case ho=>rfl);(case hg=>rfl);(case hn=>rfl);(case hr=>first| (go_simp;done)| (go_simp;rfl));intro w59 hw;have hg:wr.grownBy w59 (some go55):=(by rw[hw];exact HP58.2);have hp_:Kd.R Kd.bool 4 w59 w.heap.size (fun k_=>some k_≠(.slice (some ad124) t109.length co57:Value).ownBlock) (.slice (some ⟨go55,0,none⟩) x7_2.length co56) y125:=(by rw[hw,Ny125.o];exact HP58.1);clear HP58;replace O_7:=q_ (hp_);replace O_8:=q_ (Kd.R_after (v:=(.slice (some ⟨go55,0,none⟩) x7_2.length co56)) (v1:=(.slice (some ⟨go55,0,none⟩) x7_2.length co56)) (ok:=(fun _=>True)) (mR_ O_8 (fun _ hk=>⟨trivial,hk⟩)) hg (.inl rfl));replace HB:=q_ ((by rw[hw];exact below_set (HB.o) GB55.out:Below w.heap.size w w59));clear hg hw hp_))
     go_roundg k2
     case measure=>have:=HJ3.o;have:=HK2.o;omega
     case rel=>exact⟨(y125),(wrap64 (x9_2+1)),rs_,H',⟨by have:=HJ3.o;have:=HK2.o;omega⟩,⟨ra_ O_7.o⟩,⟨mR_ O_8 (fun _ hk=>hk.2)⟩,⟨be_ HB.o⟩⟩
def spec_Without.f(k:Nat)(l0:List (S163))(l1:List (S163)):Option ((List (S163))):=(spec_l1Both.f k l0 l1 2).bind fun t101=>(some t101)
theorem spec_Without.calls(k:Nat)(A0:Option Addr)(c0:Nat)(l0:List (S163))(A1:Option Addr)(c1:Nat)(l1:List (S163))(r:List (S163))(w:World)(hr0:Kd.C k163 w A0 l0.length l0)(hc0:l0.length≤c0)(hr1:Kd.C k163 w A1 l1.length l1)(hc1:l1.length≤c1)(h:spec_Without.f k l0 l1=some r):
  Calls Try.prog 155 #[.slice A0 l0.length c0, .slice A1 l1.length c1] w fun e w'=>∃v0_:Value,e= .returned (v0_)∧Kd.R k163 163 w' w.heap.size (fun _=>True) v0_ r∧Below w.heap.size w w':=by
 have HR0:=q_ hr0;have HC0:=q_ hc0;clear hr0 hc0;have HR1:=q_ hr1;have HC1:=q_ hc1;clear hr1 hc1;have HB:=q_ (Below.refl w.heap.size w);have H:((spec_l1Both.f k l0 l1 2).bind fun t101=>(some t101))=some r:=h;clear h;obtain⟨t101,A3,H⟩:=ob_ H;obtain rfl:=Option.some.inj H;go_enter Try.func155,Try.ntmps155
 go_wp2_with(((with_reducible refine gate_callee (f:=156) rfl ?_);refine gl_ (some 7) rfl rfl Try.func156 #[.slice A0 l0.length c0, .slice A1 l1.length c1, .int .i64 2] ?_;(with_reducible refine(spec_l1Both.calls k _ _ l0 _ _ l1 2 t101 _ ?side1 ?side2 ?side3 ?side4 A3.o).mono ?_);(case side1=>exact HR0.o);(case side2=>exact HC0.o);(case side3=>exact HR1.o);(case side4=>exact HC1.o);rintro e w4 ⟨v102,rfl,ho0,hb⟩;refine⟨_,rfl,?_⟩;have O103:=q_ (Kd.R_lower ho0 (below_size (be_ HB.o)));replace HB:=sb_ HB hb;clear hb ho0))
 go_ret
 exact⟨_,rt_,ra_ O103.o,be_ HB.o⟩
def spec_Others.f(k:Nat)(l0:List (S163)):Option ((List (S163))):=(spec_ClassOk.f k l0).bind fun t101=>(if t101=true then((spec_Without.f k (([(⟨0,255⟩:S163)]:List (S163))) l0).bind fun t105=>(some t105))else(some (([]:List (S163)))))
theorem spec_Others.calls(k:Nat)(A0:Option Addr)(c0:Nat)(l0:List (S163))(r:List (S163))(w:World)(hr0:Kd.C k163 w A0 l0.length l0)(hc0:l0.length≤c0)(h:spec_Others.f k l0=some r):
  Calls Try.prog 152 #[.slice A0 l0.length c0] w fun e w'=>∃v0_:Value,e= .returned (v0_)∧Kd.R k163 163 w' w.heap.size (fun _=>True) v0_ r∧Below w.heap.size w w':=by
 have hu163:=Try.underlying163;have HR0:=q_ hr0;have HC0:=q_ hc0;clear hr0 hc0;have HB:=q_ (Below.refl w.heap.size w);have H:((spec_ClassOk.f k l0).bind fun t101=>(if t101=true then((spec_Without.f k (([(⟨0,255⟩:S163)]:List (S163))) l0).bind fun t105=>(some t105))else(some (([]:List (S163))))))=some r:=h;clear h;obtain⟨t101,A2,H⟩:=ob_ H;by_cases c3:t101=true;rotate_left
 ·replace c3:=Bool.eq_false_iff.mpr c3;subst c3;rw[iN nft_]at H;generalize hy108:([]:List (S163))=y108 at H;have Ny108:=q_ hy108.symm;clear hy108;obtain rfl:=Option.some.inj H;go_enter Try.func152,Try.ntmps152
  go_wp2_with(first| ((with_reducible refine gate_callee (f:=116) rfl ?_);refine gl_ (some 4) rfl rfl Try.func116 #[.slice A0 l0.length c0] ?_;(with_reducible refine(spec_ClassOk.calls k _ _ l0 false _ ?side1 ?side2 A2.o).mono ?_);(case side1=>exact HR0.o);(case side2=>exact HC0.o);rintro e w10 ⟨rfl,hb⟩;refine⟨_,rfl,?_⟩;replace HB:=sb_ HB hb;clear hb)| ((with_reducible refine gate_dst (N:=6) rfl ?_);refine Kd.R_lit k163 _ 163 ?hg (N:=6) ?hd (xs:=([]:List (S163))) (inner:=[]) (ok:=fun _=>True) (okp:=fun _=>True) ?hr ?hp (fun _ hk=>hk) trivial (Below.refl _ _) (Nat.le_refl _) (by simp) ?_;(case hd=>rfl);(case hg=>rfl);(case hr=>first| (go_simp;done)| (go_simp;rfl));(case hp=>exact(Reps.none _ _));intro v109 w11 ho12 hb hg_ hnew_;clear hg_ hnew_;(rw[←Ny108.o]at ho12);have O110:=q_ (Kd.R_lower ho12 (below_size (be_ HB.o)));replace HB:=sb_ HB hb;clear hb ho12))
  go_ret
  exact⟨_,rt_,ra_ O110.o,be_ HB.o⟩
 subst c3;rw[iP rfl]at H;generalize hy102:([(⟨0,255⟩:S163)]:List (S163))=y102 at H;have Ny102:=q_ hy102.symm;clear hy102;obtain⟨t105,A4,H⟩:=ob_ H;obtain rfl:=Option.some.inj H;go_enter Try.func152,Try.ntmps152
 go_wp2_with(first| ((with_reducible refine gate_callee (f:=116) rfl ?_);refine gl_ (some 4) rfl rfl Try.func116 #[.slice A0 l0.length c0] ?_;(with_reducible refine(spec_ClassOk.calls k _ _ l0 true _ ?side1 ?side2 A2.o).mono ?_);(case side1=>exact HR0.o);(case side2=>exact HC0.o);rintro e w5 ⟨rfl,hb⟩;refine⟨_,rfl,?_⟩;replace HB:=sb_ HB hb;clear hb)| ((with_reducible refine gate_dst (N:=8) rfl ?_);refine Kd.R_lit k163 _ 163 ?hg (N:=8) ?hd (xs:=([(⟨0,255⟩:S163)]:List (S163))) (inner:=[.int .i64 0, .int .i64 255]) (ok:=fun _=>True) (okp:=fun _=>True) ?hr ?hp (fun _ hk=>hk) trivial (Below.refl _ _) (Nat.le_refl _) (by simp) ?_;(case hd=>rfl);(case hg=>rfl);(case hr=>first| (go_simp;done)| (go_simp;rfl));(case hp=>exact(Reps.c2 (show Kd.M k163 _ _ _ (⟨0,255⟩:S163) [.int .i64 0, .int .i64 255]from(k163_mkM _ _ _ (⟨0,255⟩:S163))) (Reps.none _ _)));intro v103 w6 ho7 hb hg_ hnew_;clear hg_ hnew_;(rw[←Ny102.o]at ho7);have O104:=q_ (Kd.R_lower ho7 (below_size (be_ HB.o)));replace HB:=sb_ HB hb;clear hb ho7;obtain⟨Ao8,co8,eo8⟩:=Kd.R_slice O104.o;subst eo8)| ((with_reducible refine gate_callee (f:=155) rfl ?_);refine gl_ (some 10) rfl rfl Try.func155 #[.slice Ao8 y102.length co8, .slice A0 l0.length c0] ?_;(with_reducible refine(spec_Without.calls k _ _ y102 _ _ l0 t105 _ ?side1 ?side2 ?side3 ?side4 A4.o).mono ?_);(case side1=>exact ca_ (Kd.R_reads' O104.o).2.2);(case side2=>exact(Kd.R_reads' O104.o).2.1);(case side3=>exact Kd.C_below HR0.o (be_ HB.o));(case side4=>exact HC0.o);rintro e w9 ⟨v106,rfl,ho0,hb⟩;refine⟨_,rfl,?_⟩;have O107:=q_ (Kd.R_lower (Kd.R_new' ho0 (Kd.R_lt (ra_ O104.o))) (below_size (be_ HB.o)));replace O104:=eR_ O104 (Kd.R_base ho0) hb;replace HB:=sb_ HB hb;clear hb ho0))
 go_ret
 exact⟨_,rt_,by(with_reducible repeat(first|apply Kd.R_alloc|apply Kd.R_drewN|apply Kd.R_drew));exact Kd.R_mono O107.o (fun _ hk=>trivial),be_ HB.o⟩
end Go.Proofs.Ytlecpdpdcocibaa.P
namespace Go.Proofs.Ytlecpdpdcocibaa.P
open Go.RowKit Go.Proofs.YtlecpdpdcocibaaW.PrintWords Go.Proofs.YtlecpdpdcocibaaW.PrintLast Go.Proofs.YtlecpdpdcocibaaW.PrintMore
set_option linter.unusedVariables false
set_option linter.unusedSimpArgs false
def opG(k:Nat)(b:List Int)(p:Int)(deep:Int):Option (Int × Int):=
  (spec_l1Rd_near.f k b p 3 8).bind fun t1=>(if deep=0 then some (true,t1.2)else spec_l1Rd_once.f b t1.2 3).bind fun t2=>
    if t2.1=true then(spec_l1Rd_once.f b t2.2 12).bind fun t3=>some (if t3.1=true then 1 else 2,t3.2)else some (t1.1,t2.2)
def strsG:List ByteArray:=[⟨#[97]⟩,⟨#[98]⟩,⟨#[99]⟩,⟨#[97,98]⟩,⟨#[97,98,99]⟩,⟨#[120]⟩,⟨#[10]⟩,⟨#[45]⟩,⟨#[122,57]⟩]
def setG(k:Nat)(b:List Int)(p:Int):Option (List S163 × Int):=
  (spec_l1Rd_below.f b p 9).bind fun t1=>if 0≤t1.1∧t1.1<9 then(spec_ClassOf.f k (strsG.getD t1.1.toNat ⟨#[]⟩)).bind fun s0=>(spec_l1Rd_once.f b t1.2 5).bind fun t2=>
    (if t2.1=true then(spec_l1Rd_class.f k b t2.2).bind fun t3=>some (if 0<t3.1.length then t3.1 else s0,t3.2)else some (s0,t2.2)).bind fun t4=>
      (spec_l1Rd_once.f b t4.2 16).bind fun t5=>if t5.1=true then(spec_Others.f k t4.1).bind fun s1=>some (s1,t5.2)else some (t4.1,t5.2)else none
def minG(b:List Int)(p:Int)(op:Int):Option (Int × Int × Int):=
  if op=8 then(spec_l1Rd_below.f b p 3).bind fun t1=>(spec_l1Rd_below.f b t1.2 3).bind fun t2=>
    (if wrap64 (t1.1+t2.1)=0 then some (true,t2.2)else spec_l1Rd_once.f b t2.2 4).bind fun t3=>(spec_l1Rd_once.f b t3.2 16).bind fun t4=>
      some (t1.1,if t4.1=true then 30 else if t3.1=true then -1 else wrap64 (t1.1+t2.1),t4.2)
  else some (0,0,p)
mutual
def growF:Nat→List Int→Int→List S196→Int→Option (List S196 × Int)
 |0,_,_,_,_=>none
 | k + 1,b,p,ns,deep=>if ns.length≤100000 then(opG k b p deep).bind fun t1=>
     if t1.1=2 then(setG k b t1.2).bind fun t2=>some (ns++ [⟨2,t2.1,[],0,0⟩],t2.2)
     else kidsF k b t1.2 ns [] deep t1.1 0 else none
def kidsF:Nat→List Int→Int→List S196→List Int→Int→Int→Int→Option (List S196 × Int)
 |0,_,_,_,_,_,_,_=>none
 | k + 1,b,p,ns,kids,deep,op,q=>if ns.length≤100000∧kids.length≤100000 then(spec_l3Kids.f k op).bind fun m=>
     if q<m then(growF k b p ns (wrap64 (deep-1))).bind fun t=>kidsF k b t.2 t.1 (kids++ [wrap64 ((t.1.length:Int)-1)]) deep op (wrap64 (q+1))
     else(minG b p op).bind fun t=>some (ns++ [⟨op,[],kids,t.1,t.2.1⟩],t.2.2)else none
end
def rxF(k:Nat)(b:List Int)(p:Int)(deep:Int):Option (List S196 × Int):=
 (growF k b p [] deep).bind fun t=>(spec_RxOk.f k t.1).bind fun ok=>if ok=true then some (t.1,t.2)else(spec_ClassOf.f k ⟨#[97]⟩).bind fun s=>some ([⟨2,s,[],0,0⟩],t.2)
end Go.Proofs.Ytlecpdpdcocibaa.P
namespace Go.Proofs.Ytlecpdpdcocibaa.P
open Go.RowKit Go.Proofs.YtlecpdpdcocibaaW.PrintWords Go.Proofs.YtlecpdpdcocibaaW.PrintLast Go.Proofs.YtlecpdpdcocibaaW.PrintMore Go.Proofs.YtlecpdpdcocibaaEv
set_option linter.unusedVariables false
set_option linter.unusedSimpArgs false
theorem infoRNode_:(Try.prog.info? 196).map (fun i=>(i.zero,i.size,i.bytes))=some (some (.agg #[.int .i64 0, .slice none 0 0, .slice none 0 0, .int .i64 0, .int .i64 0]),5,72):=by kernel_rfl
structure Gst (w0 w wc:World) (g:Nat) (b:List Int) (p:Int) (base:Nat) (ok:Nat→Prop) (v v1:Value) (ns:List S196):Prop where
 I:IsS149 w0 wc g b p
 B:Below w0.heap.size w0 wc
 K:KeepBut w wc g v.ownBlock
 R:Kd.R k196 196 wc base ok v1 ns
 S:v1.ownBlock=v.ownBlock∨∃c,v1.ownBlock=some c∧w.heap.size≤c
theorem keep_any{w w':World}{g:Nat}(h:KeepBut w w' g none)(row:Option Nat):KeepBut w w' g row:=⟨h.1,fun i hi hg _=>h.2 i hi hg (by simp)⟩
section
variable {w0 w wc w':World} {g g8 base:Nat} {b:List Int} {p p':Int} {ok ok':Nat→Prop} {v v1:Value} {ns:List S196}
theorem Gst.call(h:Gst w0 w wc g b p base ok v v1 ns)(hi:IsS149 w0 w' g b p')(hb:Below w0.heap.size w0 w')(hk:KeepBut wc w' g none):Gst w0 w w' g b p' base ok v v1 ns:=
 ⟨hi,hb,h.K.trans (keep_any hk _) (.inl rfl),Kd.R_mono (Kd.R_keep (IsS149.apart h.I h.R (by decide)) hk (fun _ h=>h.2)) (fun _ h=>h.1),h.S⟩
theorem Gst.below(h:Gst w0 w wc g b p base ok v v1 ns)(hb:Below wc.heap.size wc w'):Gst w0 w w' g b p base ok v v1 ns:=
 ⟨h.I.below hb,below_step h.B hb,h.K.trans (keep_any (KeepBut.of_below hb g none) _) (.inl rfl),Kd.R_below h.R hb,h.S⟩
theorem Gst.far(h:Gst w0 w wc g b p base ok v v1 ns)(h8g:g≠g8)(h8w:w.heap.size≤g8)(hw:w0.heap.size≤w.heap.size)(hok:∀k,ok k→k≠g8)(j:Nat)(u:Value):Gst w0 w (wc.setCell ⟨g8,j,none⟩ u) g b p base ok v v1 ns:=
 ⟨h.I.far h8g _,below_set h.B (Nat.le_trans hw h8w),keep_far h.K h8w _,Kd.R_far h.R hok _,h.S⟩
theorem Gst.mono(h:Gst w0 w wc g b p base ok v v1 ns)(hok:∀k,ok k→ok' k):Gst w0 w wc g b p base ok' v v1 ns:=
 ⟨h.I,h.B,h.K,Kd.R_mono h.R hok,h.S⟩
theorem Gst.born(h:Gst w0 w wc g b p base ok v v1 ns)(hg:g8=wc.heap.size):Gst w0 w wc g b p base (fun k=>ok k∧k≠g8) v v1 ns:=
 ⟨h.I,h.B,h.K,Kd.R_mono (Kd.R_bound h.R) (fun k hk=>⟨hk.1,by have:=hk.2.2.1;omega⟩),h.S⟩
theorem Gst.grown{v2:Value}{ns2:List S196}(h:Gst w0 w wc g b p base ok v v1 ns)(ho:Kd.R k196 196 w' base ok' v2 ns2)(hg:wc.grownBy w' v1.ownBlock)(hat:v2.ownBlock=v1.ownBlock∨∃c,v2.ownBlock=some c∧wc.heap.size≤c)(hb:w0.heap.size≤base):Gst w0 w w' g b p base ok' v v2 ns2:=
 ⟨h.I.grown hg (IsS149.own_ne h.I h.R (by decide)),h.B.grown hg h.B.size (fun k hk=>Nat.le_trans hb (Kd.R_base h.R k hk)),h.K.trans (KeepBut.of_grown hg g) h.S,ho,by
   rcases hat with e| ⟨c,e,hc⟩
   ·rw[e]
    exact h.S
   ·exact .inr ⟨c,e,Nat.le_trans h.K.1 hc⟩⟩
theorem Gst.then{v2:Value}{ns2:List S196}(h:Gst w0 w wc g b p base ok v v1 ns)(h2:Gst w0 wc w' g b p' base ok' v1 v2 ns2):Gst w0 w w' g b p' base ok' v v2 ns2:=
 ⟨h2.I,h2.B,h.K.trans h2.K h.S,h2.R,by
   rcases h2.S with e| ⟨c,e,hc⟩
   ·rw[e]
    exact h.S
   ·exact .inr ⟨c,e,Nat.le_trans h.K.1 hc⟩⟩
theorem Gst.row{α:Type}{d:Kd α}{e:Nat}{x:Value}{xs:List α}{cells:Array Value}{t:TypeId}(h:Gst w0 w wc g b p base ok v v1 ns)(h8:wc.heap[g8]? =some (.cells cells t (0,0)))(hO:Kd.R d e w' wc.heap.size (fun _=>True) x xs):Kd.R d e w' w.heap.size (fun k=>k≠g8∧some k≠v1.ownBlock) x xs:=
 Kd.R_lower (Kd.R_mono (Kd.R_bound hO) (fun k hk=>⟨fun e=>by have:=blk_lt h8;have:=hk.2.1;omega,fun e=>by have:=Kd.R_lt h.R k e.symm;have:=hk.2.1;omega⟩)) (keep_size h.K)
theorem Gst.rowcall{α:Type}{d:Kd α}{e base2:Nat}{ok2:Nat→Prop}{x:Value}{xs:List α}(h:Gst w0 w wc g b p base ok v v1 ns)(hO:Kd.R d e wc base2 ok2 x xs)(hk:KeepBut wc w' g none)(ht:∀q,q∈e :: d.E→q≠149):Kd.R d e w' base2 ok2 x xs:=
 Kd.R_mono (Kd.R_keep (IsS149.apart h.I hO ht) hk (fun _ h=>h.2)) (fun _ h=>h.1)
theorem Gst.other{α:Type}{d:Kd α}{e base2:Nat}{ok2:Nat→Prop}{x x2:Value}{xs:List α}(h:Gst w0 w wc g b p base (fun k=>ok k∧some k≠x.ownBlock) v v1 ns)(hO:Kd.R d e wc base2 ok2 x xs)(he:e≠149)(hg:wc.grownBy w' x.ownBlock)(hat:x2.ownBlock=x.ownBlock∨∃c,x2.ownBlock=some c∧wc.heap.size≤c)(hb:w.heap.size≤base2)(hw:w0.heap.size≤w.heap.size):Gst w0 w w' g b p base (fun k=>ok k∧some k≠x2.ownBlock) v v1 ns:=
 ⟨h.I.grown hg (IsS149.own_ne h.I hO he),h.B.grown hg h.B.size (fun k hk=>Nat.le_trans hw (Nat.le_trans hb (Kd.R_base hO k hk))),by
   cases hx:x.ownBlock with
   |none=>rw[hx]at hg;exact h.K.trans (keep_any (KeepBut.of_grown hg g) _) (.inl rfl)
   |some c=>rw[hx]at hg;exact h.K.trans (KeepBut.of_grown hg g) (.inr ⟨c,rfl,Nat.le_trans hb (Kd.R_base hO c hx)⟩),by
   refine Kd.R_mono (Kd.R_grown (Kd.R_bound h.R) hg (fun k hk=>hk.1.2)) (fun k hk=>⟨hk.1.1,?_⟩);rcases hat with e2| ⟨c,e2,hc⟩
   ·rw[e2];exact hk.1.2
   ·rw[e2];intro e3;injection e3 with e3;have:=hk.2.2.1;omega,h.S⟩
theorem R_rec{α:Type}{d:Kd α}{e base2 t2:Nat}{ok2:Nat→Prop}{row:Option Nat}{x:Value}{xs:List α}(hI:IsS149 w0 wc g b p)(hO:Kd.R d e wc base2 ok2 x xs)(hk:KeepBut wc w' g row)(hr:∀k,row=some k→∃cells,wc.heap[k]? =some (.cells cells t2 (0,0)))(ht:∀q,q∈e :: d.E→q≠149)(ht2:∀q,q∈e :: d.E→q≠t2):Kd.R d e w' base2 ok2 x xs:=by
 have h1:=IsS149.apart hI hO ht;cases row with
 |none=>exact Kd.R_mono (Kd.R_keep h1 hk (fun _ h=>h.2)) (fun _ h=>h.1)
 | some c=>
   obtain⟨cells,hc⟩:=hr c rfl;exact Kd.R_mono (Kd.R_step (Kd.R_types h1 hc ht2) (fun k h hlt=>hk.2 k hlt h.1.2 (by intro e;injection e with e;exact h.2 e))) (fun _ h=>h.1.1)
end
theorem grow_hand:∀(k:Nat) (g:Nat) (b:List Int) (p:Int) (ns:List S196) (deep:Int) (ns':List S196) (p':Int) (v:Value) (base:Nat) (ok:Nat→Prop) (w0 w:World) (hI:IsS149 w0 w g b p) (hB:Below w0.heap.size w0 w) (hN:Kd.R k196 196 w base ok v ns) (hb1:w0.heap.size≤base) (hb2:base≤w.heap.size) (hok:∀k,w.heap.size≤k→ok k) (h:growF k b p ns deep=some (ns',p')),
    Calls Try.prog 140 #[.pointer (some ⟨g,0,none⟩),v, .int .i64 deep] w fun e w'=>∃v1:Value,e= .returned v1∧Gst w0 w w' g b p' base ok v v1 ns':=by
  intro k
  induction k using Nat.strongRecOn with
  |ind k ih=>
  intro g b p ns deep ns' p' v base ok w0 w hI hB hN hb1 hb2 hok h;cases k with
  |zero=>exact absurd h (by simp[growF])
  |succ k=>
  rw[growF]at h;by_cases hlen:ns.length≤100000;rotate_left
  ·rw[iN hlen]at h
   exact absurd h (by simp)
  rw[iP hlen]at h;obtain⟨⟨op,p1⟩,E0,H⟩:=ob_ h;replace H:=q_ H;clear h;have HG:J0 (Gst w0 w w g b p base ok v v ns):=⟨⟨hI,hB,KeepBut.refl _ _ _,hN, .inl rfl⟩⟩;have HB1:=q_ hb1;have HB2:=q_ hb2;have HOK:=q_ hok;have HLEN:=q_ hlen;have IH:=q_ ih;have HW0:J0 (w0.heap.size≤w.heap.size):=⟨Nat.le_trans hb1 hb2⟩;clear hI hB hN hb1 hb2 hok hlen ih;obtain⟨Av,cv,rfl⟩:=Kd.R_slice HG.o.R;obtain⟨⟨o1,q1⟩,E1,E2⟩:=ob_ E0.o;obtain⟨⟨t2,q2⟩,EA,E2⟩:=ob_ E2;replace E2:=q_ E2;clear E0;go_enter Try.func140,Try.ntmps140;go_upto_region 2 with(go_at_call 108;(with_reducible refine(spec_l1Rd_near.calls k g b p 3 8 o1 q1 w0 _ HG.o.I HG.o.B E1.o).mono ?_);rintro e w2 ⟨rfl,hi,hb,hk⟩;replace HG:=q_ (HG.o.call hi hb hk);clear hi hb hk)
  go_cut [18] (fun v18 wc=>v18= .bool t2∧J0 (Gst w0 w wc g b q2 base ok (.slice Av ns.length cv) (.slice Av ns.length cv) ns))
  case first=>
   have H2:=EA.o;clear EA E1 E2;by_cases hd:deep=0
   ·rw[iP hd]at H2
    have hdb:(deep==0)=true:=beq_iff_eq.mpr hd;clear hd;obtain⟨rfl,rfl⟩:true=t2∧q1=q2:=by simpa using H2
    go_wp2;go_meet
    case rel=>exact⟨rfl,HG⟩
   ·rw[iN hd]at H2
    have hdb:(deep==0)=false:=beq_eq_false_iff_ne.mpr hd;clear hd;replace H2:=q_ H2
    go_wp2_with(go_at_call 55;(with_reducible refine(spec_l1Rd_once.calls g b q1 3 t2 q2 w0 _ HG.o.I HG.o.B H2.o).mono ?_);rintro e w2 ⟨rfl,hi,hb,hk⟩;replace HG:=q_ (HG.o.call hi hb hk);clear hi hb hk)
    go_meet
    case rel=>exact⟨rfl,HG⟩
  clear EA E1 HG;obtain⟨rfl,HG⟩:=hcut
  go_upto_if 18 with fail
  go_cut [7] (fun v7 wc=>v7= .int .i64 op∧J0 (Gst w0 w wc g b p1 base ok (.slice Av ns.length cv) (.slice Av ns.length cv) ns))
  case first=>
    have H2:=E2.o;clear E2;cases t2
    ·obtain⟨rfl,rfl⟩:o1=op∧q2=p1:=by simpa using H2
     clear H2;go_wp2;go_meet
     case rel=>exact⟨rfl,HG⟩
    · replace H2:(spec_l1Rd_once.f b q2 12).bind (fun t3=>some (if t3.1=true then 1 else 2,t3.2))=some (op,p1):=H2
      obtain⟨⟨t3,q3⟩,E3,H3⟩:=ob_ H2;clear H2;cases t3
      · obtain⟨rfl,rfl⟩:(2:Int)=op∧q3=p1:=by simpa using H3
        clear H3
        go_wp2_with(go_at_call 55;(with_reducible refine(spec_l1Rd_once.calls g b q2 12 false q3 w0 _ HG.o.I HG.o.B E3.o).mono ?_);rintro e w2 ⟨rfl,hi,hb,hk⟩;replace HG:=q_ (HG.o.call hi hb hk);clear hi hb hk)
        go_meet
        case rel=>exact⟨rfl,HG⟩
      · obtain⟨rfl,rfl⟩:(1:Int)=op∧q3=p1:=by simpa using H3
        clear H3
        go_wp2_with(go_at_call 55;(with_reducible refine(spec_l1Rd_once.calls g b q2 12 true q3 w0 _ HG.o.I HG.o.B E3.o).mono ?_);rintro e w2 ⟨rfl,hi,hb,hk⟩;replace HG:=q_ (HG.o.call hi hb hk);clear hi hb hk)
        go_meet
        case rel=>exact⟨rfl,HG⟩
  clear E2 HG;obtain⟨rfl,HG⟩:=hcut;have T0:J0 True:=⟨trivial⟩;go_upto_region 7 with((with_reducible refine gate_dst (N:=8) rfl ?_);clear T0;refine bx_ 8 #[.int .i64 0, .slice none 0 0, .slice none 0 0, .int .i64 0, .int .i64 0] 196 ?_;intro g8 hg w8 hbox hbx;have B8:=q_ hbox;have N8:J0 (g8≠g):=⟨by rw[hg];exact Nat.ne_of_gt (IsS149.lt HG.o.I)⟩;have G8:J0 (w.heap.size≤g8):=⟨by rw[hg];exact keep_size HG.o.K⟩;replace HG:=q_ ((HG.o.born hg).below hbx);clear hbx hbox hg;obtain⟨hy0,hy1,hy2,hy3,hy4,hf0,hf1,hf2,hf3,hf4⟩:=d5_ B8)
  have B8b:=q_ (blk_put (cs':=#[.int .i64 op, .slice none 0 0, .slice none 0 0, .int .i64 0, .int .i64 0]) (blk_put (blk_put (blk_put (blk_put B8.o 0 (.int .i64 op) rfl) 1 (.slice none 0 0) rfl) 2 (.slice none 0 0) rfl) 3 (.int .i64 0) rfl) 4 (.int .i64 0) rfl);have HGb:=q_ (((((HG.o.far N8.o.symm G8.o HW0.o (fun _ h=>h.2) 0 (.int .i64 op)).far N8.o.symm G8.o HW0.o (fun _ h=>h.2) 1 (.slice none 0 0)).far N8.o.symm G8.o HW0.o (fun _ h=>h.2) 2 (.slice none 0 0)).far N8.o.symm G8.o HW0.o (fun _ h=>h.2) 3 (.int .i64 0)).far N8.o.symm G8.o HW0.o (fun _ h=>h.2) 4 (.int .i64 0));clear B8 HG hy0 hy1 hy2 hy3 hy4 hf0 hf1 hf2 hf3 hf4;generalize World.setCell _ ⟨g8,4,none⟩ (.int .i64 0)=w9 at B8b HGb ⊢;have B8:=B8b;have HG:=HGb;clear B8b HGb;by_cases h2:op=2
  · subst h2
    rw[iP rfl]at H;obtain⟨⟨st,p2⟩,ES,H⟩:=ob_ H.o;obtain⟨rfl,rfl⟩:ns++ [⟨2,st,[],0,0⟩]=ns'∧p2=p':=by simpa using H
    have HQ:=ES.o;clear ES H;unfold setG at HQ;obtain⟨⟨i9,q3⟩,EB,HQ⟩:=ob_ HQ;by_cases h9:0≤i9∧i9<9;rotate_left
    ·replace HQ:=(iN h9).symm.trans HQ
     exact absurd HQ (by simp)
    replace HQ:=(iP h9).symm.trans HQ;obtain⟨s0,EC0,HQ⟩:=ob_ HQ;obtain⟨⟨c5,q4⟩,ED,HQ⟩:=ob_ HQ;obtain⟨⟨s4,q5⟩,EF,HQ⟩:=ob_ HQ;obtain⟨⟨c16,q6⟩,EH,HI⟩:=ob_ HQ;replace HI:=q_ HI;have EC:J0 (spec_ClassOf.f k (rdOf ByteArray.empty strsG i9)=some s0):=⟨EC0.o⟩;have p9:=h9.1;have r9:i9<(strsG.length:Int):=h9.2;clear h9 HQ EC0;have T1:J0 True:=⟨trivial⟩;obtain⟨hy0,hy1,hy2,hy3,hy4,hf0,hf1,hf2,hf3,hf4⟩:=d5_ B8;go_upto_region 9 with(first
     | ((with_reducible refine gate_dst (N:=25) rfl ?_);clear T1;refine Kd.R_lit Kd.string _ 9 ?ag (N:=25) ?ad (xs:=strsG) (inner:=[.string ⟨#[97]⟩, .string ⟨#[98]⟩, .string ⟨#[99]⟩, .string ⟨#[97,98]⟩, .string ⟨#[97,98,99]⟩, .string ⟨#[120]⟩, .string ⟨#[10]⟩, .string ⟨#[45]⟩, .string ⟨#[122,57]⟩]) (ok:=fun _=>True) (okp:=fun _=>True) ?ar ?ap (fun _ hk=>hk) trivial (Below.refl _ _) (Nat.le_refl _) (by decide) ?_;(case ad=>rfl);(case ag=>rfl);(case ar=>first| (go_simp;done)| (go_simp;rfl));(case ap=>exact(Reps.one (show Kd.M Kd.string _ _ _ (⟨#[97]⟩:ByteArray) [.string ⟨#[97]⟩]from rfl) (Reps.one (show Kd.M Kd.string _ _ _ (⟨#[98]⟩:ByteArray) [.string ⟨#[98]⟩]from rfl) (Reps.one (show Kd.M Kd.string _ _ _ (⟨#[99]⟩:ByteArray) [.string ⟨#[99]⟩]from rfl) (Reps.one (show Kd.M Kd.string _ _ _ (⟨#[97,98]⟩:ByteArray) [.string ⟨#[97,98]⟩]from rfl) (Reps.one (show Kd.M Kd.string _ _ _ (⟨#[97,98,99]⟩:ByteArray) [.string ⟨#[97,98,99]⟩]from rfl) (Reps.one (show Kd.M Kd.string _ _ _ (⟨#[120]⟩:ByteArray) [.string ⟨#[120]⟩]from rfl) (Reps.one (show Kd.M Kd.string _ _ _ (⟨#[10]⟩:ByteArray) [.string ⟨#[10]⟩]from rfl) (Reps.one (show Kd.M Kd.string _ _ _ (⟨#[45]⟩:ByteArray) [.string ⟨#[45]⟩]from rfl) (Reps.one (show Kd.M Kd.string _ _ _ (⟨#[122,57]⟩:ByteArray) [.string ⟨#[122,57]⟩]from rfl) (Reps.none _ _)))))))))));intro v3 w3 ho hb hgg_ hnew_;clear hgg_ hnew_;have HO:=q_ ho;replace B8:=lb_ B8 hb;replace HG:=q_ (HG.o.below hb);clear hb ho;(try clear hy0 hy1 hy2 hy3 hy4 hf0 hf1 hf2 hf3 hf4);obtain⟨hy0,hy1,hy2,hy3,hy4,hf0,hf1,hf2,hf3,hf4⟩:=d5_ B8;skip)
     | (go_at_call 66;(with_reducible refine(spec_l1Rd_below.calls g b p1 9 i9 q3 w0 _ HG.o.I HG.o.B EB.o).mono ?_);rintro e w2 ⟨rfl,hi,hb,hk⟩;replace HO:=q_ (HG.o.rowcall HO.o hk (by decide));replace B8:=q_ (KeepBut.blk hk B8.o N8.o (by simp));replace HG:=q_ (HG.o.call hi hb hk);clear hi hb hk;obtain⟨Ao,co,rfl⟩:=Kd.R_slice HO.o;(try clear hy0 hy1 hy2 hy3 hy4 hf0 hf1 hf2 hf3 hf4);obtain⟨hy0,hy1,hy2,hy3,hy4,hf0,hf1,hf2,hf3,hf4⟩:=d5_ B8;obtain⟨adx,ex,hx⟩:=Kd.at_string (C_of_R HO.o) i9 p9 r9;cases ex;have p9b:=eq_true p9;have r9b:=eq_true r9)
     | (go_at_call 141;(with_reducible refine(spec_ClassOf.calls k (rdOf ByteArray.empty strsG i9) s0 _ EC.o).mono ?_);rintro e w4 ⟨vs,rfl,ho,hb⟩;have HS:=q_ (HG.o.row B8.o ho);replace B8:=lb_ B8 hb;replace HG:=q_ (HG.o.below hb);clear hb ho;obtain⟨As,cs_,rfl⟩:=Kd.R_slice HS.o;(try clear hy0 hy1 hy2 hy3 hy4 hf0 hf1 hf2 hf3 hf4);obtain⟨hy0,hy1,hy2,hy3,hy4,hf0,hf1,hf2,hf3,hf4⟩:=d5_ B8;skip))
    have B8b:=q_ (blk_put (cs':=#[.int .i64 2, .slice As s0.length cs_, .slice none 0 0, .int .i64 0, .int .i64 0]) B8.o 1 (.slice As s0.length cs_) rfl);have HGb:=q_ (HG.o.far N8.o.symm G8.o HW0.o (fun _ h=>h.2) 1 (.slice As s0.length cs_));have HSb:=q_ (Kd.R_far (p:=⟨g8,1,none⟩) HS.o (fun _ h=>h.1) (.slice As s0.length cs_));clear B8 HG HS HO EB EC hx p9 r9 p9b r9b hy0 hy1 hy2 hy3 hy4 hf0 hf1 hf2 hf3 hf4;generalize World.setCell _ ⟨g8,1,none⟩ (.slice As s0.length cs_)=w10 at B8b HGb HSb ⊢;have B8:=B8b;have HG:=HGb;have HS:=HSb;clear B8b HGb HSb
    go_upto_if 33 with(go_at_call 55;(with_reducible refine(spec_l1Rd_once.calls g b q3 5 c5 q4 w0 _ HG.o.I HG.o.B ED.o).mono ?_);rintro e w2 ⟨rfl,hi,hb,hk⟩;replace HS:=q_ (HG.o.rowcall HS.o hk (by decide));replace B8:=q_ (KeepBut.blk hk B8.o N8.o (by simp));replace HG:=q_ (HG.o.call hi hb hk);clear hi hb hk)
    go_cut [] (fun wc=>∃vs,J0 (wc.heap[g8]? =some (.cells #[.int .i64 2,vs, .slice none 0 0, .int .i64 0, .int .i64 0] 196 (0,0)))∧J0 (Kd.R k163 163 wc w.heap.size (fun k=>k≠g8∧some k≠(Value.slice Av ns.length cv).ownBlock) vs s4)∧J0 (Gst w0 w wc g b q5 base (fun k=>ok k∧k≠g8) (.slice Av ns.length cv) (.slice Av ns.length cv) ns))
    case first=>
      have HF:=EF.o;clear EF EH HI ED;obtain⟨hy0,hy1,hy2,hy3,hy4,hf0,hf1,hf2,hf3,hf4⟩:=d5_ B8;cases c5
      · obtain⟨rfl,rfl⟩:s0=s4∧q4=q5:=by simpa using HF
        go_wp2;go_meet
        case rel=>exact⟨_,B8,HS,HG⟩
      · obtain⟨⟨s3,q7⟩,EG,HF⟩:=ob_ HF
        by_cases h3:0<s3.length
        · obtain⟨rfl,rfl⟩:s3=s4∧q7=q5:=by simpa[h3]using HF
          have hlb:decide (0<(s3.length:Int))=true:=decide_eq_true (by omega);have hlc:decide (0<s3.length)=true:=decide_eq_true h3;clear h3 HF
          go_wp2_with(go_at_call 136;(with_reducible refine(spec_l1Rd_class.calls k g b q4 s3 q7 w0 _ HG.o.I HG.o.B EG.o).mono ?_);rintro e w5 ⟨v5,rfl,ho,hi,hb,hk⟩;have HS2:=q_ (HG.o.row B8.o ho);replace HS:=q_ (HG.o.rowcall HS.o hk (by decide));replace B8:=q_ (KeepBut.blk hk B8.o N8.o (by simp));replace HG:=q_ (HG.o.call hi hb hk);clear hi hb hk ho;obtain⟨A5,c5_,rfl⟩:=Kd.R_slice HS2.o;(try clear hy0 hy1 hy2 hy3 hy4 hf0 hf1 hf2 hf3 hf4);obtain⟨hy0,hy1,hy2,hy3,hy4,hf0,hf1,hf2,hf3,hf4⟩:=d5_ B8;skip)
          go_meet
          case rel=>exact⟨_,⟨blk_put B8.o 1 _ rfl⟩,⟨Kd.R_far (p:=⟨g8,1,none⟩) HS2.o (fun _ h=>h.1) _⟩,⟨HG.o.far N8.o.symm G8.o HW0.o (fun _ h=>h.2) 1 _⟩⟩
        · obtain⟨rfl,rfl⟩:s0=s4∧q7=q5:=by simpa[h3]using HF
          have hlb:decide (0<(s3.length:Int))=false:=decide_eq_false (by omega);have hlc:decide (0<s3.length)=false:=decide_eq_false h3;clear h3 HF
          go_wp2_with(go_at_call 136;(with_reducible refine(spec_l1Rd_class.calls k g b q4 s3 q7 w0 _ HG.o.I HG.o.B EG.o).mono ?_);rintro e w5 ⟨v5,rfl,ho,hi,hb,hk⟩;have HS2:=q_ (HG.o.row B8.o ho);replace HS:=q_ (HG.o.rowcall HS.o hk (by decide));replace B8:=q_ (KeepBut.blk hk B8.o N8.o (by simp));replace HG:=q_ (HG.o.call hi hb hk);clear hi hb hk ho;obtain⟨A5,c5_,rfl⟩:=Kd.R_slice HS2.o;(try clear hy0 hy1 hy2 hy3 hy4 hf0 hf1 hf2 hf3 hf4);obtain⟨hy0,hy1,hy2,hy3,hy4,hf0,hf1,hf2,hf3,hf4⟩:=d5_ B8;skip)
          go_meet
          case rel=>exact⟨_,B8,HS,HG⟩
    clear EF ED B8 HG HS;obtain⟨vs,B8,HS,HG⟩:=hcut;obtain⟨A4,c4_,rfl⟩:=Kd.R_slice HS.o
    go_upto_if 42 with(go_at_call 55;(with_reducible refine(spec_l1Rd_once.calls g b q5 16 c16 q6 w0 _ HG.o.I HG.o.B EH.o).mono ?_);rintro e w2 ⟨rfl,hi,hb,hk⟩;replace HS:=q_ (HG.o.rowcall HS.o hk (by decide));replace B8:=q_ (KeepBut.blk hk B8.o N8.o (by simp));replace HG:=q_ (HG.o.call hi hb hk);clear hi hb hk)
    go_cut [] (fun wc=>∃vs,J0 (wc.heap[g8]? =some (.cells #[.int .i64 2,vs, .slice none 0 0, .int .i64 0, .int .i64 0] 196 (0,0)))∧J0 (Kd.R k163 163 wc w.heap.size (fun k=>k≠g8∧some k≠(Value.slice Av ns.length cv).ownBlock) vs st)∧J0 (Gst w0 w wc g b p2 base (fun k=>ok k∧k≠g8) (.slice Av ns.length cv) (.slice Av ns.length cv) ns))
    case first=>
      have HF:=HI.o;clear EH HI;obtain⟨hy0,hy1,hy2,hy3,hy4,hf0,hf1,hf2,hf3,hf4⟩:=d5_ B8;cases c16
      · obtain⟨rfl,rfl⟩:s4=st∧q6=p2:=by simpa using HF
        go_wp2;go_meet
        case rel=>exact⟨_,B8,HS,HG⟩
      · obtain⟨s1,EO,HF⟩:=ob_ HF
        obtain⟨rfl,rfl⟩:s1=st∧q6=p2:=by simpa using HF
        go_wp2_with(go_at_call 152;(with_reducible refine(spec_Others.calls k _ _ s4 s1 _ (C_of_R HS.o) (L_of_R HS.o) EO.o).mono ?_);rintro e w6 ⟨v6,rfl,ho,hb⟩;have HS2:=q_ (HG.o.row B8.o ho);replace B8:=lb_ B8 hb;replace HG:=q_ (HG.o.below hb);clear hb ho;obtain⟨A6,c6_,rfl⟩:=Kd.R_slice HS2.o;(try clear hy0 hy1 hy2 hy3 hy4 hf0 hf1 hf2 hf3 hf4);obtain⟨hy0,hy1,hy2,hy3,hy4,hf0,hf1,hf2,hf3,hf4⟩:=d5_ B8;skip)
        go_meet
        case rel=>exact⟨_,⟨blk_put B8.o 1 _ rfl⟩,⟨Kd.R_far (p:=⟨g8,1,none⟩) HS2.o (fun _ h=>h.1) _⟩,⟨HG.o.far N8.o.symm G8.o HW0.o (fun _ h=>h.2) 1 _⟩⟩
    clear EH HI B8 HG HS;obtain⟨vs,B8,HS,HG⟩:=hcut;obtain⟨A7,c7_,rfl⟩:=Kd.R_slice HS.o;obtain⟨hy0,hy1,hy2,hy3,hy4,hf0,hf1,hf2,hf3,hf4⟩:=d5_ B8;have HV:J0 (Kd.R k163 163 _ base _ _ st):=⟨Kd.R_lower (Kd.R_mono (Kd.R_bound HS.o) (fun k hk=>(⟨⟨HOK.o k hk.2.1,hk.1.1⟩,hk.1.2⟩:(ok k∧k≠g8)∧some k≠(Value.slice Av ns.length cv).ownBlock))) HB2.o⟩
    go_wp2_with((with_reducible refine gate_builtin (b:= .append) (xs:=#[.tmp 47, .tmp 49]) rfl ?_);at_builtin;refine Kd.R_append k196 base rfl (.tmp 47) (.tmp 49) 65 196 (.agg #[.int .i64 0, .slice none 0 0, .slice none 0 0, .int .i64 0, .int .i64 0]) 72 rfl Try.underlying65 infoRNode_ rfl (by decide) (by omega) (.slice Av ns.length cv) ns (⟨2,st,[],0,0⟩:S196) [.int .i64 2,(.slice A7 st.length c7_),(.slice none 0 0), .int .i64 0, .int .i64 0] (fun k=>ok k∧k≠g8) (fun k=>(ok k∧k≠g8)∧some k≠(Value.ownBlock (.slice Av ns.length cv))) rfl rfl ?aP (fun _ hk=>hk) ?aF HG.o.R (Below.refl _ _) ?aS ?aL ?_;(case aP=>exact k196_mkM _ _ _ (⟨2,st,[],0,0⟩:S196) HV.o (Kd.R_nil _ _ _ _ _));(case aF=>exact fun k hk=>⟨HOK.o k (Nat.le_trans (keep_size HG.o.K) hk),fun e=>by have:=blk_lt B8.o;omega⟩);(case aS=>exact Nat.le_trans HB2.o (keep_size HG.o.K));(case aL=>have:=HLEN.o;omega);intro v9 w9 ho hb hgr hat;replace HG:=q_ ((HG.o.grown ho hgr hat HB1.o).mono (fun _ h=>h.1));clear ho hb hgr hat)
    go_ret
    exact⟨_,rfl,HG.o⟩
  · replace H :=q_ ((iN h2).symm.trans H.o)
    have hop:(op==2)=false:=beq_eq_false_iff_ne.mpr h2;clear E2 HLEN;go_wp2
    go_loopg [1,10] k (fun kq v1 v10 wr=>∃(q:Int) (ns1:List S196) (kids:List Int) (p5:Int) (vk:Value),v10= .int .i64 q∧J0 (kidsF kq b p5 ns1 kids deep op q=some (ns',p'))∧J0 (kq≤k)∧J0 (wr.heap[g8]? =some (.cells #[.int .i64 op, .slice none 0 0,vk, .int .i64 0, .int .i64 0] 196 (0,0)))∧J0 (Kd.R (Kd.int .i64) 2 wr w.heap.size (fun _=>True) vk kids)∧J0 (Gst w0 w wr g b p5 base (fun k=>(ok k∧k≠g8)∧some k≠(Value.ownBlock vk)) (.slice Av ns.length cv) v1 ns1))
    case atStart=>exact⟨0,ns,[],p1, .slice none 0 0,rs_,H,⟨Nat.le_refl _⟩,B8,⟨Kd.R_nil _ _ _ _ _⟩,⟨HG.o.mono (fun k h=>⟨h,by simp[Value.ownBlock]⟩)⟩⟩
    case round =>
      clear H B8 HG;obtain⟨q,ns1,kids,p5,vk,rfl,H,HKQ,B8,HK,HG⟩:=hrel;obtain⟨A1,c1,rfl⟩:=Kd.R_slice HG.o.R;obtain⟨Ak,ck,rfl⟩:=Kd.R_slice HK.o;cases gk with
      |zero=>exact absurd H.o (by simp[kidsF])
      |succ k1=>
      have HQ:=H.o;clear H;rw[kidsF]at HQ;by_cases hl:ns1.length≤100000∧kids.length≤100000;rotate_left
      · replace HQ:=(iN hl).symm.trans HQ
        exact absurd HQ (by simp)
      replace HQ:=(iP hl).symm.trans HQ;have HL:=q_ hl;obtain⟨m,EK,HR⟩:=ob_ HQ;clear HQ hl;obtain⟨hy0,hy1,hy2,hy3,hy4,hf0,hf1,hf2,hf3,hf4⟩:=d5_ B8;by_cases hq:q<m
      · replace HR:=(iP hq).symm.trans HR
        obtain⟨⟨ns2,p6⟩,EG,HT⟩:=ob_ HR;replace HT:=q_ HT;clear HR;have hqb:decide (q<m)=true:=decide_eq_true hq;clear hq
        go_wp2_with(first| (go_at_call 153;(with_reducible refine(spec_l3Kids.calls k1 op m _ EK.o).mono ?_);rintro e w6 ⟨rfl,hd⟩;have hb:=below_drawn hd;replace HK:=q_ (Kd.R_below HK.o hb);replace B8:=lb_ B8 hb;replace HG:=q_ (HG.o.below hb);clear hb hd;(try clear hy0 hy1 hy2 hy3 hy4 hf0 hf1 hf2 hf3 hf4);obtain⟨hy0,hy1,hy2,hy3,hy4,hf0,hf1,hf2,hf3,hf4⟩:=d5_ B8;skip)| (go_at_call 140;refine(IH.o k1 (by have:=HKQ.o;omega) g b p5 ns1 (wrap64 (deep-1)) ns2 p6 (.slice A1 ns1.length c1) base (fun k=>(ok k∧k≠g8)∧some k≠(Value.ownBlock (.slice Ak kids.length ck))) w0 _ HG.o.I HG.o.B HG.o.R HB1.o (Nat.le_trans HB2.o (keep_size HG.o.K)) (fun k hk=>⟨⟨HOK.o k (Nat.le_trans (keep_size HG.o.K) hk),fun e=>by have:=blk_lt B8.o;omega⟩,fun e=>by have:=Kd.R_lt HK.o k e.symm;omega⟩) EG.o).mono ?_;rintro e w7 ⟨v2,rfl,h2⟩;replace B8:=q_ (KeepBut.blk h2.K B8.o N8.o (fun e=>(HG.o.R.1 g8 e.symm).1.2 rfl));replace HK:=q_ (R_rec HG.o.I HK.o h2.K (Kd.R_typed HG.o.R) (by decide) (by decide));replace HG:=q_ (HG.o.then h2);clear h2;obtain⟨A2,c2_,rfl⟩:=Kd.R_slice HG.o.R;(try clear hy0 hy1 hy2 hy3 hy4 hf0 hf1 hf2 hf3 hf4);obtain⟨hy0,hy1,hy2,hy3,hy4,hf0,hf1,hf2,hf3,hf4⟩:=d5_ B8;skip)| ((with_reducible refine gate_builtin (b:= .append) (xs:=#[.tmp 63, .tmp 67]) rfl ?_);at_builtin;refine Kd.R_append (Kd.int .i64) w.heap.size rfl (.tmp 63) (.tmp 67) 22 2 (.int .i64 0) 8 rfl Try.underlying22 info2 rfl (by decide) (by omega) (.slice Ak kids.length ck) kids (wrap64 ((ns2.length:Int)-1)) [.int .i64 (wrap64 ((ns2.length:Int)-1))] (fun _=>True) (fun _=>False) rfl rfl ?aP (fun _ hk=>hk.elim) ?aF HK.o (Below.refl _ _) ?aS ?aL ?_;(case aP=>exact rfl);(case aF=>exact(fun _ _=>trivial));(case aS=>exact keep_size HG.o.K);(case aL=>have:=HL.o.2;omega);intro v9 w9 ho hb hgr hat;replace B8:=q_ (blk_grown B8.o hgr (Kd.R_ne HK.o B8.o (by decide)));replace HG:=q_ (HG.o.other HK.o (by decide) hgr hat (Nat.le_refl _) HW0.o);replace HK:=q_ ho;obtain⟨A9,c9,rfl⟩:=Kd.R_slice HK.o;clear ho hb hgr hat;have hln:(kids++ [wrap64 ((ns2.length:Int)-1)]).length=kids.length+1:=(by simp);rw[hln]at HG HK ⊢;clear hln;(try clear hy0 hy1 hy2 hy3 hy4 hf0 hf1 hf2 hf3 hf4);obtain⟨hy0,hy1,hy2,hy3,hy4,hf0,hf1,hf2,hf3,hf4⟩:=d5_ B8;skip))
        go_roundg k1
        case measure=>exact Nat.lt_succ_self _
        case rel=>exact⟨wrap64 (q+1),ns2,kids++ [wrap64 ((ns2.length:Int)-1)],p6,_,rs_,HT,⟨by have:=HKQ.o;omega⟩,⟨blk_put B8.o 2 _ rfl⟩,⟨Kd.R_set HK.o B8.o (by decide) 2 _⟩,⟨HG.o.far N8.o.symm G8.o HW0.o (fun _ h=>h.1.2) 2 _⟩⟩
      · replace HR:=(iN hq).symm.trans HR
        obtain⟨⟨mn,mx,p7⟩,EM,HT⟩:=ob_ HR;obtain⟨rfl,rfl⟩:ns1++ [⟨op,[],kids,mn,mx⟩]=ns'∧p7=p':=by simpa using HT
        clear HR HT;have hqb:decide (q<m)=false:=decide_eq_false hq;clear hq
        go_upto_if 71 with(go_at_call 153;(with_reducible refine(spec_l3Kids.calls k1 op m _ EK.o).mono ?_);rintro e w6 ⟨rfl,hd⟩;have hb:=below_drawn hd;replace HK:=q_ (Kd.R_below HK.o hb);replace B8:=lb_ B8 hb;replace HG:=q_ (HG.o.below hb);clear hb hd;(try clear hy0 hy1 hy2 hy3 hy4 hf0 hf1 hf2 hf3 hf4);obtain⟨hy0,hy1,hy2,hy3,hy4,hf0,hf1,hf2,hf3,hf4⟩:=d5_ B8;skip)
        go_cut [] (fun wc=>J0 (wc.heap[g8]? =some (.cells #[.int .i64 op, .slice none 0 0,(.slice Ak kids.length ck), .int .i64 mn, .int .i64 mx] 196 (0,0)))∧J0 (Kd.R (Kd.int .i64) 2 wc w.heap.size (fun _=>True) (.slice Ak kids.length ck) kids)∧J0 (Gst w0 w wc g b p7 base (fun k=>(ok k∧k≠g8)∧some k≠(Value.ownBlock (.slice Ak kids.length ck))) (.slice Av ns.length cv) (.slice A1 ns1.length c1) ns1))
        case first=>
          by_cases h8:op=8;rotate_left
          · have h8b:(op==8)=false:=beq_eq_false_iff_ne.mpr h8
            obtain⟨rfl,rfl,rfl⟩:0=mn∧0=mx∧p5=p7:=by simpa[minG,h8]using EM.o
            go_wp2;go_meet
            case rel=>exact⟨B8,HK,HG⟩
          · have h8b:(op==8)=true:=beq_iff_eq.mpr h8
            have HM:=EM.o;clear EM;unfold minG at HM;replace HM:=(iP h8).symm.trans HM;obtain⟨⟨n1,q1⟩,EA,HM⟩:=ob_ HM;obtain⟨⟨n2,q2⟩,EB,HM⟩:=ob_ HM;obtain⟨⟨t3,q3⟩,EC,HM⟩:=ob_ HM;obtain⟨⟨t4,q4⟩,ED,HM⟩:=ob_ HM;obtain⟨rfl,rfl,rfl⟩:n1=mn∧(if t4=true then 30 else if t3=true then -1 else wrap64 (n1+n2))=mx∧q4=p7:=by simpa using HM
            clear HM h8;go_upto_region 23 with(go_at_call 66;(with_reducible refine(spec_l1Rd_below.calls g b p5 3 n1 q1 w0 _ HG.o.I HG.o.B EA.o).mono ?_);rintro e w2 ⟨rfl,hi,hb,hk⟩;replace HK:=q_ (HG.o.rowcall HK.o hk (by decide));replace B8:=q_ (KeepBut.blk hk B8.o N8.o (by simp));replace HG:=q_ (HG.o.call hi hb hk);clear hi hb hk;(try clear hy0 hy1 hy2 hy3 hy4 hf0 hf1 hf2 hf3 hf4);obtain⟨hy0,hy1,hy2,hy3,hy4,hf0,hf1,hf2,hf3,hf4⟩:=d5_ B8;skip)
            have B8b:=q_ (blk_put (cs':=#[.int .i64 op, .slice none 0 0,(.slice Ak kids.length ck), .int .i64 n1, .int .i64 0]) B8.o 3 (.int .i64 n1) rfl);have HGb:=q_ (HG.o.far N8.o.symm G8.o HW0.o (fun _ h=>h.1.2) 3 (.int .i64 n1));have HKb:=q_ (Kd.R_set HK.o B8.o (by decide) 3 (.int .i64 n1));clear B8 HG HK hy0 hy1 hy2 hy3 hy4 hf0 hf1 hf2 hf3 hf4;generalize World.setCell _ ⟨g8,3,none⟩ (.int .i64 n1)=w10 at B8b HGb HKb ⊢;have B8:=q_ (blk_drew B8b.o);have HG:=q_ (HGb.o.below (below_drew1 (Below.refl _ _)));have HK:=q_ (Kd.R_drew HKb.o);clear B8b HGb HKb
            go_wp2_with fail
            refine start_ (n:=7) (S:=fun w'=>w'.cell? ⟨g8,3,none⟩=some (.int .i64 n1)) (ds:=[6]) (bb 7 0) (by kernel_rfl) rfl rfl ((blk_cell B8.o 3).trans rfl) (fun hS=>?_);generalize World.drew _=w11 at B8 HG HK hS ⊢;refine pk_ 0 75 1 ?_;refine tk_ 1 76 3 hS ?_;refine pk_ 2 77 7 ?_;refine one_ (i:=3) (N:=some 78) (bb 7 15) rfl rfl (by kernel_rfl) (by decide) (fun K hK=>?_);refine gs_ Try.func66 #[.pointer (some ⟨g,0,none⟩), .int .i64 3] ?_
            with_reducible refine(spec_l1Rd_below.calls g b q1 3 n2 q2 w0 _ HG.o.I HG.o.B EB.o).mono ?_
            rintro e w12 ⟨rfl,hi,hb,hk⟩;refine⟨_,rfl,?_⟩;replace HK:=q_ (HG.o.rowcall HK.o hk (by decide));replace B8:=q_ (KeepBut.blk hk B8.o N8.o (by simp));replace HG:=q_ (HG.o.call hi hb hk);clear hi hb hk;refine hK.out _ _ ((blk_cell B8.o 3).trans rfl) (fun hS=>?_);clear hK K;refine no_ (some 78) ?_;refine pk_ 4 79 31 ?_;refine pk_ 5 80 63 ?_;have hf4:=blk_frozen B8.o 4;have hz4:w12.cell? ⟨g8,4,none⟩=some (.int .i64 0):=(blk_cell B8.o 4).trans rfl;refine last_ (i:=6) (N:=none) (bb 7 127) rfl rfl (by kernel_rfl) (by decide) (fun K hK=>?_);refine skip_ (w1:=?_) (by rfl) rfl ?_ ?_;rotate_left
            · go_simp
              rfl
            refine hK.out _ _ ?_;clear hK K;refine done_ (by kernel_rfl) ?_;have B8b:=q_ (blk_put (cs':=#[.int .i64 op, .slice none 0 0,(.slice Ak kids.length ck), .int .i64 n1, .int .i64 (wrap64 (n1+n2))]) B8.o 4 (.int .i64 (wrap64 (n1+n2))) rfl);have HGb:=q_ (HG.o.far N8.o.symm G8.o HW0.o (fun _ h=>h.1.2) 4 (.int .i64 (wrap64 (n1+n2))));have HKb:=q_ (Kd.R_set HK.o B8.o (by decide) 4 (.int .i64 (wrap64 (n1+n2))));clear B8 HG HK hf4 hz4 hS;generalize World.setCell _ ⟨g8,4,none⟩ (.int .i64 (wrap64 (n1+n2)))=w13 at B8b HGb HKb ⊢;have B8:=B8b;have HG:=HGb;have HK:=HKb;clear B8b HGb HKb EA EB;generalize wrap64 (n1+n2)=nn at *;obtain⟨hy0,hy1,hy2,hy3,hy4,hf0,hf1,hf2,hf3,hf4⟩:=d5_ B8;go_upto_region 24 with fail
            go_cut [87] (fun v87 wc=>v87= .bool t3∧J0 (wc.heap[g8]? =some (.cells #[.int .i64 op, .slice none 0 0,(.slice Ak kids.length ck), .int .i64 n1, .int .i64 nn] 196 (0,0)))∧J0 (Kd.R (Kd.int .i64) 2 wc w.heap.size (fun _=>True) (.slice Ak kids.length ck) kids)∧J0 (Gst w0 w wc g b q3 base (fun k=>(ok k∧k≠g8)∧some k≠(Value.ownBlock (.slice Ak kids.length ck))) (.slice Av ns.length cv) (.slice A1 ns1.length c1) ns1))
            case first=>
              have H2:=EC.o;clear EC ED;by_cases hd:nn=0
              · rw[iP hd]at H2
                have hdb:(nn==0)=true:=beq_iff_eq.mpr hd;clear hd;obtain⟨rfl,rfl⟩:true=t3∧q2=q3:=by simpa using H2
                go_wp2;go_meet
                case rel=>exact⟨rfl,B8,HK,HG⟩
              · rw[iN hd]at H2
                have hdb:(nn==0)=false:=beq_eq_false_iff_ne.mpr hd;clear hd;replace H2:=q_ H2
                go_wp2_with(go_at_call 55;(with_reducible refine(spec_l1Rd_once.calls g b q2 4 t3 q3 w0 _ HG.o.I HG.o.B H2.o).mono ?_);rintro e w2 ⟨rfl,hi,hb,hk⟩;replace HK:=q_ (HG.o.rowcall HK.o hk (by decide));replace B8:=q_ (KeepBut.blk hk B8.o N8.o (by simp));replace HG:=q_ (HG.o.call hi hb hk);clear hi hb hk;(try clear hy0 hy1 hy2 hy3 hy4 hf0 hf1 hf2 hf3 hf4);obtain⟨hy0,hy1,hy2,hy3,hy4,hf0,hf1,hf2,hf3,hf4⟩:=d5_ B8;skip)
                go_meet
                case rel=>exact⟨rfl,B8,HK,HG⟩
            clear EC B8 HG HK hy0 hy1 hy2 hy3 hy4 hf0 hf1 hf2 hf3 hf4;obtain⟨rfl,B8,HK,HG⟩:=hcut;obtain⟨hy0,hy1,hy2,hy3,hy4,hf0,hf1,hf2,hf3,hf4⟩:=d5_ B8
            go_upto_if 87 with fail
            go_cut [] (fun wc=>J0 (wc.heap[g8]? =some (.cells #[.int .i64 op, .slice none 0 0,(.slice Ak kids.length ck), .int .i64 n1, .int .i64 (if t3=true then -1 else nn)] 196 (0,0)))∧J0 (Kd.R (Kd.int .i64) 2 wc w.heap.size (fun _=>True) (.slice Ak kids.length ck) kids)∧J0 (Gst w0 w wc g b q3 base (fun k=>(ok k∧k≠g8)∧some k≠(Value.ownBlock (.slice Ak kids.length ck))) (.slice Av ns.length cv) (.slice A1 ns1.length c1) ns1))
            case first=>
              cases t3
              · go_wp2
                go_meet
                case rel=>exact⟨B8,HK,HG⟩
              · go_wp2
                go_meet
                case rel=>exact⟨⟨blk_put B8.o 4 _ rfl⟩,⟨Kd.R_set HK.o B8.o (by decide) 4 _⟩,⟨HG.o.far N8.o.symm G8.o HW0.o (fun _ h=>h.1.2) 4 _⟩⟩
            clear B8 HG HK hy0 hy1 hy2 hy3 hy4 hf0 hf1 hf2 hf3 hf4;obtain⟨B8,HK,HG⟩:=hcut;generalize(if t3=true then -1 else nn)=nm at *
            go_upto_if 90 with(go_at_call 55;(with_reducible refine(spec_l1Rd_once.calls g b q3 16 t4 q4 w0 _ HG.o.I HG.o.B ED.o).mono ?_);rintro e w2 ⟨rfl,hi,hb,hk⟩;replace HK:=q_ (HG.o.rowcall HK.o hk (by decide));replace B8:=q_ (KeepBut.blk hk B8.o N8.o (by simp));replace HG:=q_ (HG.o.call hi hb hk);clear hi hb hk;(try clear hy0 hy1 hy2 hy3 hy4 hf0 hf1 hf2 hf3 hf4);obtain⟨hy0,hy1,hy2,hy3,hy4,hf0,hf1,hf2,hf3,hf4⟩:=d5_ B8;skip)
            cases t4
            · go_wp2
              go_meet
              case rel=>exact⟨B8,HK,HG⟩
            · go_wp2
              go_meet
              case rel=>exact⟨⟨blk_put B8.o 4 _ rfl⟩,⟨Kd.R_set HK.o B8.o (by decide) 4 _⟩,⟨HG.o.far N8.o.symm G8.o HW0.o (fun _ h=>h.1.2) 4 _⟩⟩
        clear B8 HK HG EM;obtain⟨B8,HK,HG⟩:=hcut;obtain⟨hy0,hy1,hy2,hy3,hy4,hf0,hf1,hf2,hf3,hf4⟩:=d5_ B8;have HLEN:J0 (ns1.length≤100000):=⟨HL.o.1⟩;have HV:J0 (Kd.R (Kd.int .i64) 2 wc base (fun k=>(ok k∧k≠g8)∧some k≠(Value.ownBlock (.slice A1 ns1.length c1))) (.slice Ak kids.length ck) kids):=⟨by
          refine Kd.R_lower (Kd.R_mono (Kd.R_bound (Kd.R_types HK.o B8.o (by decide))) (fun k hk=>⟨⟨HOK.o k hk.2.1,hk.1.2⟩,fun e=>?_⟩)) HB2.o;obtain⟨_,_,_,t,ht,cells,hc⟩:=hk;obtain⟨cells2,hc2⟩:=Kd.R_typed HG.o.R k e.symm;rw[hc]at hc2;injection hc2 with hc2
          injection hc2 with _ hc2
          exact absurd hc2 ((by decide:∀t,t∈2 :: (Kd.int .i64).E→t≠196) t ht)⟩
        have HG1:=q_ (HG.o.mono (fun _ h=>h.1));clear HG HK;have HG:=HG1;clear HG1
        go_wp2_with((with_reducible refine gate_builtin (b:= .append) (xs:=#[.tmp 92, .tmp 94]) rfl ?_);at_builtin;refine Kd.R_append k196 base rfl (.tmp 92) (.tmp 94) 65 196 (.agg #[.int .i64 0, .slice none 0 0, .slice none 0 0, .int .i64 0, .int .i64 0]) 72 rfl Try.underlying65 infoRNode_ rfl (by decide) (by omega) (.slice A1 ns1.length c1) ns1 (⟨op,[],kids,mn,mx⟩:S196) [.int .i64 op,(.slice none 0 0),(.slice Ak kids.length ck), .int .i64 mn, .int .i64 mx] (fun k=>ok k∧k≠g8) (fun k=>(ok k∧k≠g8)∧some k≠(Value.ownBlock (.slice A1 ns1.length c1))) rfl rfl ?aP (fun _ hk=>hk) ?aF HG.o.R (Below.refl _ _) ?aS ?aL ?_;(case aP=>exact k196_mkM _ _ _ (⟨op,[],kids,mn,mx⟩:S196) (Kd.R_nil _ _ _ _ _) HV.o);(case aF=>exact fun k hk=>⟨HOK.o k (Nat.le_trans (keep_size HG.o.K) hk),fun e=>by have:=blk_lt B8.o;omega⟩);(case aS=>exact Nat.le_trans HB2.o (keep_size HG.o.K));(case aL=>have:=HLEN.o;omega);intro v9 w9 ho hb hgr hat;replace HG:=q_ ((HG.o.grown ho hgr hat HB1.o).mono (fun _ h=>h.1));clear ho hb hgr hat)
        go_ret
        exact⟨_,rfl,HG.o⟩
theorem below_of_grown{w w1:World}(h:w.grownBy w1 none):Below w.heap.size w w1:=⟨h.os,h.tape,h.output,h.size,fun i hi=>h.block i hi (by simp)⟩
theorem Gst.types{w0 w wc:World}{g g8 base:Nat}{b:List Int}{p:Int}{ok:Nat→Prop}{v v1:Value}{ns:List S196}{cells:Array Value}{t:TypeId}(h:Gst w0 w wc g b p base ok v v1 ns)(h8:wc.heap[g8]? =some (.cells cells t (0,0)))(ht:∀q,q∈196 :: k196.E→q≠t):Gst w0 w wc g b p base (fun k=>ok k∧k≠g8) v v1 ns:=
 ⟨h.I,h.B,h.K,Kd.R_types h.R h8 ht,h.S⟩
theorem Gst.far'{w0 w wc:World}{g g8 base:Nat}{b:List Int}{p:Int}{ok:Nat→Prop}{v v1:Value}{ns:List S196}{cells:Array Value}{t:TypeId}(h:Gst w0 w wc g b p base ok v v1 ns)(h8g:g≠g8)(h8w:w.heap.size≤g8)(hw:w0.heap.size≤w.heap.size)(h8:wc.heap[g8]? =some (.cells cells t (0,0)))(ht:∀q,q∈196 :: k196.E→q≠t)(j:Nat)(u:Value):Gst w0 w (wc.setCell ⟨g8,j,none⟩ u) g b p base ok v v1 ns:=
 ((h.types h8 ht).far h8g h8w hw (fun _ h=>h.2) j u).mono (fun _ h=>h.1)
theorem spec_l1Rd_rx_hand(k:Nat)(g:Nat)(b:List Int)(p:Int)(deep:Int)(r:List S196)(p':Int)(w0 w:World)(hI:IsS149 w0 w g b p)(hB:Below w0.heap.size w0 w)(h:rxF k b p deep=some (r,p')):
   Calls Try.prog 125 #[.pointer (some ⟨g,0,none⟩), .int .i64 deep] w fun e w'=>∃v0_:Value,e= .returned (.agg #[v0_])∧Kd.R k196 196 w' w.heap.size (fun _=>True) v0_ r∧IsS149 w0 w' g b p'∧Below w0.heap.size w0 w'∧KeepBut w w' g none:=by
 obtain⟨⟨ns,p1⟩,E0,H⟩:=ob_ h;obtain⟨t,E1,H⟩:=ob_ H;replace H:=q_ H;have HW0:=q_ hB.size;have HG:J0 (Gst w0 w w g b p w.heap.size (fun _=>True) (.slice none 0 0) (.slice none 0 0) []):=⟨⟨hI,hB,KeepBut.refl _ _ _,Kd.R_nil _ _ _ _ _, .inl rfl⟩⟩;clear hI hB h;have T4:J0 True:=⟨trivial⟩;have T5:J0 True:=⟨trivial⟩;have T7:J0 True:=⟨trivial⟩;go_enter Try.func125,Try.ntmps125;go_upto_region 2 with(first
  | ((with_reducible refine gate_dst (N:=4) rfl ?_);clear T4;refine bx_ 4 #[.slice none 0 0] 67 ?_;intro g4 hg w4 hbox hbx;have B4:=q_ hbox;have N4:J0 (g4≠g):=⟨by rw[hg];exact Nat.ne_of_gt (IsS149.lt HG.o.I)⟩;have G4:J0 (w.heap.size≤g4):=⟨by rw[hg];exact keep_size HG.o.K⟩;replace HG:=q_ (HG.o.below hbx);clear hbx hbox hg)
  | ((with_reducible refine gate_dst (N:=7) rfl ?_);clear T7;refine Kd.R_lit k196 _ 196 ?ag (N:=7) ?ad (xs:=([]:List S196)) (inner:=[]) (ok:=fun _=>True) (okp:=fun _=>True) ?ar ?ap (fun _ hk=>hk) trivial (Below.refl _ _) (Nat.le_refl _) (by decide) ?_;(case ad=>rfl);(case ag=>rfl);(case ar=>first| (go_simp;done)| (go_simp;rfl));(case ap=>exact Reps.none _ _);intro v3 w3 ho hb hgg_ hnew_;replace B4:=lb_ B4 hb;replace HG:=q_ (Gst.grown HG.o (Kd.R_lower ho (keep_size HG.o.K)) (grown_of_below hb _) (.inr hnew_) HW0.o);clear hb ho hgg_ hnew_;obtain⟨A3,c3,rfl⟩:=Kd.R_slice HG.o.R)
  | (go_at_call 140;refine(grow_hand k g b p [] deep ns p1 _ w.heap.size (fun _=>True) w0 _ HG.o.I HG.o.B HG.o.R HW0.o (keep_size HG.o.K) (fun _ _=>trivial) E0.o).mono ?_;rintro e w7 ⟨v2,rfl,h2⟩;replace B4:=q_ (KeepBut.blk h2.K B4.o N4.o (Kd.R_ne HG.o.R B4.o (by decide)));replace HG:=q_ (HG.o.then h2);clear h2;obtain⟨A2,c2_,rfl⟩:=Kd.R_slice HG.o.R)
  | ((with_reducible refine gate_dst (N:=5) rfl ?_);clear T5;refine bx_ 5 #[.slice none 0 0] 67 ?_;intro g5 hg w5 hbox hbx;have B5:=q_ hbox;have N5:J0 (g5≠g):=⟨by rw[hg];exact Nat.ne_of_gt (IsS149.lt HG.o.I)⟩;have G5:J0 (w.heap.size≤g5):=⟨by rw[hg];exact keep_size HG.o.K⟩;have N45:=nl_ hg B4;replace B4:=lb_ B4 hbx;replace HG:=q_ (HG.o.below hbx);clear hbx hbox hg;obtain⟨hy0,hf0⟩:=d1_ B5))
 have B5b:=q_ (blk_put (cs':=#[.slice A2 ns.length c2_]) B5.o 0 (.slice A2 ns.length c2_) rfl);have B4b:=q_ (blk_far (p:=⟨g5,0,none⟩) B4.o N45.o (.slice A2 ns.length c2_));have HGb:=q_ ((HG.o.types B5.o (by decide)).far N5.o.symm G5.o HW0.o (fun _ h=>h.2) 0 (.slice A2 ns.length c2_));replace HGb:=q_ (HGb.o.mono (ok':=fun _=>True) (fun _ _=>trivial));clear B4 B5 HG hy0 hf0;generalize World.setCell _ ⟨g5,0,none⟩ (.slice A2 ns.length c2_)=w9 at B4b B5b HGb ⊢;have B4:=B4b;have B5:=B5b;have HG:=HGb;clear B4b B5b HGb;obtain⟨hy0,hf0⟩:=d1_ B5;cases t
 ·obtain⟨s,E2,H⟩:=ob_ H.o
  obtain⟨rfl,rfl⟩: [⟨2,s,[],0,0⟩]=r∧p1=p':=by simpa using H
  clear H;have T16:J0 True:=⟨trivial⟩
  go_wp2_with(first
   | (go_at_call 133;(with_reducible refine(spec_RxOk.calls k _ _ ns false _ (C_of_R HG.o.R) (L_of_R HG.o.R) E1.o).mono ?_);rintro e w2 ⟨rfl,hb⟩;replace B4:=lb_ B4 hb;replace B5:=lb_ B5 hb;replace HG:=q_ (HG.o.below hb);clear hb)
   | (go_at_call 141;(with_reducible refine(spec_ClassOf.calls k _ s _ E2.o).mono ?_);rintro e w4 ⟨vs,rfl,ho,hb⟩;have HS:=q_ (Kd.R_lower ho (keep_size HG.o.K));replace B4:=lb_ B4 hb;replace HG:=q_ (HG.o.below hb);clear hb ho;obtain⟨As,cs_,rfl⟩:=Kd.R_slice HS.o)
   | ((with_reducible refine gate_dst (N:=16) rfl ?_);(clear T16;refine Kd.R_lit k196 w.heap.size 196 ?ag (N:=16) ?ad (xs:=([⟨2,s,[],0,0⟩]:List S196)) (inner:=[.int .i64 2, .slice As s.length cs_, .slice none 0 0, .int .i64 0, .int .i64 0]) (ok:=fun _=>True) (okp:=fun _=>True) ?ar ?ap (fun _ hk=>hk) trivial (Below.refl _ _) (keep_size HG.o.K) (by simp) ?_;(case ad=>rfl);(case ag=>rfl);(case ar=>first| (go_simp;done)| (go_simp;rfl));(case ap=>exact Reps.snoc (ps:=[]) (cs:=[]) (Reps.none _ _) (k196_mkM _ _ _ (⟨2,s,[],0,0⟩:S196) HS.o (Kd.R_nil _ _ _ _ _)) rfl);intro v5 w5 ho hbq hgg_ hnew_;have hb:=below_of_grown hgg_;have HO:=q_ ho;replace B4:=lb_ B4 hb;replace HG:=q_ (HG.o.below hb);clear hb hbq ho hgg_ hnew_;obtain⟨A6,c6,rfl⟩:=Kd.R_slice HO.o;obtain⟨hz0,hfz⟩:=d1_ B4)))
  refine bodyPost_ret (results_cell_row rfl _ _ g4 67 #[.slice A6 ([⟨2,s,[],0,0⟩]:List S196).length c6] (0,0) _ rfl (blk_put B4.o 0 _ rfl) Try.underlying67 rfl (by kernel_rfl)) rfl ?_;have HGn:=HG.o.far' N4.o.symm G4.o HW0.o B4.o (by decide) 0 (.slice A6 ([⟨2,s,[],0,0⟩]:List S196).length c6);exact⟨_,rfl,Kd.R_set HO.o B4.o (by decide) 0 _,HGn.I,HGn.B,HGn.K⟩
 ·obtain⟨rfl,rfl⟩:ns=r∧p1=p':=by simpa using H.o
  clear H
  go_wp2_with(go_at_call 133;(with_reducible refine(spec_RxOk.calls k _ _ ns true _ (C_of_R HG.o.R) (L_of_R HG.o.R) E1.o).mono ?_);rintro e w2 ⟨rfl,hb⟩;replace B4:=lb_ B4 hb;replace B5:=lb_ B5 hb;replace HG:=q_ (HG.o.below hb);clear hb;clear hy0 hf0;obtain⟨hy0,hf0⟩:=d1_ B5;obtain⟨hz0,hfz⟩:=d1_ B4)
  refine bodyPost_ret (results_cell_row rfl _ _ g4 67 #[.slice A2 ns.length c2_] (0,0) _ rfl (blk_put B4.o 0 _ rfl) Try.underlying67 rfl (by kernel_rfl)) rfl ?_;have HGn:=HG.o.far' N4.o.symm G4.o HW0.o B4.o (by decide) 0 (.slice A2 ns.length c2_);exact⟨_,rfl,HGn.R,HGn.I,HGn.B,HGn.K⟩
end Go.Proofs.Ytlecpdpdcocibaa.P
namespace Go.Proofs.Ytlecpdpdcocibaa.P
open Go.RowKit Go.Proofs.YtlecpdpdcocibaaW.PrintWords Go.Proofs.YtlecpdpdcocibaaW.PrintLast Go.Proofs.YtlecpdpdcocibaaW.PrintMore
attribute [local go_sem] max2_int min2_int max_two min_two max_three min_three max_four min_four
set_option linter.unusedVariables false
set_option linter.unusedSimpArgs false
def spec_l1Rd_rx.f(k:Nat)(s0_0:List Int)(s0_1:Int)(a1:Int):Option ((List S196) × Int):=rxF k s0_0 s0_1 a1
theorem spec_l1Rd_rx.calls(k:Nat)(g:Nat)(s0_0:List Int)(s0_1:Int)(a1:Int)(r1:List S196)(r2:Int)(w0 w:World)(hI:IsS149 w0 w g s0_0 s0_1)(hB:Below w0.heap.size w0 w)(h:spec_l1Rd_rx.f k s0_0 s0_1 a1=some (r1,r2)):
 Calls Try.prog 125 #[.pointer (some ⟨g,0,none⟩), .int .i64 a1] w fun e w'=>∃v0_:Value,e= .returned (.agg #[v0_])∧Kd.R k196 196 w' w.heap.size (fun _=>True) v0_ r1∧IsS149 w0 w' g s0_0 r2∧Below w0.heap.size w0 w'∧KeepBut w w' g none:=spec_l1Rd_rx_hand k g s0_0 s0_1 a1 r1 r2 w0 w hI hB h
def spec_l1Rd_rxs.l0:Nat→List (S67)→Int→List Int→Int→Option ((List (S67)) × Int)
 |0,_,_,_,_=>none
 |k+1,x3,x4,x1000,x1001=>if x4>0 then((spec_l1Rd_below.f x1000 x1001 3).bind fun bt106=>((spec_l1Rd_rx.f k x1000 bt106.2 (wrap64 (1+bt106.1))).bind fun bt108=>(if x3.length<5864062014805 then(spec_l1Rd_rxs.l0 k (x3++ [(⟨bt108.1⟩:S67)]) (wrap64 (x4-1)) x1000 bt108.2)else(none))))else(some (x3,x1001))
def spec_l1Rd_rxs.f(k:Nat)(s0_0:List Int)(s0_1:Int):Option ((List (S67)) × Int):=(spec_l1Rd_below.f s0_0 s0_1 (mn 4 (wrap64 (1+(wrap64 ((s0_0.length:Int) / 8)))))).bind fun bt104=>(spec_l1Rd_rxs.l0 k (([]:List (S67))) (wrap64 (1+bt104.1)) s0_0 bt104.2)
theorem spec_l1Rd_rxs.calls(k:Nat)(g:Nat)(s0_0:List Int)(s0_1:Int)(r1:List (S67))(r2:Int)(w0 w:World)(hI:IsS149 w0 w g s0_0 s0_1)(hB:Below w0.heap.size w0 w)(h:spec_l1Rd_rxs.f k s0_0 s0_1=some (r1,r2)):
  Calls Try.prog 114 #[.pointer (some ⟨g,0,none⟩)] w fun e w'=>∃v0_:Value,e= .returned (v0_)∧Kd.R k67 67 w' w.heap.size (fun _=>True) v0_ r1∧IsS149 w0 w' g s0_0 r2∧Below w0.heap.size w0 w'∧KeepBut w w' g none:=by
 have HI0:=q_ hI;have HK:=q_ (KeepBut.refl w g none);have HL:=q_ hB.size;clear hI;have HW0:=q_ hB.size;have HB:=q_ hB;clear hB;have H:((spec_l1Rd_below.f s0_0 s0_1 (mn 4 (wrap64 (1+(wrap64 ((s0_0.length:Int) / 8)))))).bind fun bt104=>(spec_l1Rd_rxs.l0 k (([]:List (S67))) (wrap64 (1+bt104.1)) s0_0 bt104.2))=some (r1,r2):=h;clear h;generalize hy101:([]:List (S67))=y101 at H;have Ny101:=q_ hy101.symm;clear hy101;obtain⟨ji2,hji2⟩:∃j_:Int,(mn 4 (wrap64 (1+(wrap64 ((s0_0.length:Int) / 8)))))=j_:=⟨_,rfl⟩;replace H:((spec_l1Rd_below.f s0_0 s0_1 (ji2)).bind fun bt104=>(spec_l1Rd_rxs.l0 k y101 (wrap64 (1+bt104.1)) s0_0 bt104.2))=some (r1,r2):=by(rw[hji2]at H;exact H)
 (try(have hji2h:ji2≤4:=by(rw[←hji2];unfold mn;(repeat' split)<;>omega)))
 (try(have hji2g:ji2≤64:=by omega))
 have hji2_:(if(wrap64 (1+(wrap64 ((s0_0.length:Int) / 8))))<4 then(wrap64 (1+(wrap64 ((s0_0.length:Int) / 8))))else 4)=ji2:=hji2;replace H:=Option.bind_eq_some_iff.mp H;obtain⟨⟨t104,t105⟩,A30,H⟩:=H;dsimp only at H;have A3:=q_ A30;clear A30;have H':=q_ H;clear H;go_enter Try.func114,Try.ntmps114
 go_wp2_with(first| ((with_reducible refine gate_dst (N:=5) rfl ?_);refine Kd.R_lit k67 _ 67 ?hg (N:=5) ?hd (xs:=([]:List (S67))) (inner:=[]) (ok:=fun _=>True) (okp:=fun _=>True) ?hr ?hp (fun _ hk=>hk) trivial (Below.refl _ _) (Nat.le_refl _) (by simp) ?_;(case hd=>rfl);(case hg=>rfl);(case hr=>first| (go_simp;done)| (go_simp;rfl));(case hp=>exact(Reps.none _ _));intro v102 w4 ho5 hb hg_ hnew_;clear hg_ hnew_;(rw[←Ny101.o]at ho5);have O103:=q_ (Kd.R_lower ho5 (ks_ HK));replace HK:=kb_ HK hb;replace HB:=q_ (below_step (be1_ HB.o (IsS149.ge HI0.o)) hb);replace HI0:=ib_ HI0 hb;clear hb ho5;obtain⟨ASz6_0,cSz6_0,HGz6,hgz6,HSz6_0⟩:=HI0.o;have z6_0:=cellS149_0 HGz6;have z6_1:=cellS149_1 HGz6;have y6_1:=blk_frozen HGz6 1;clear HGz6 hgz6)| ((with_reducible refine gate_callee (f:=66) rfl ?_);refine goesL_ (some 15) rfl rfl Try.func66 (by kernel_rfl) rfl #[.pointer (some ⟨g,0,none⟩), .int .i64 ji2] rfl (by(try simp only[List.map_toArray,List.map_cons,List.map_nil]);first|done| (simp only[hji2];rfl)|rfl| (simp only[List.length_drop,List.length_take];rfl)) ?_;(with_reducible refine(spec_l1Rd_below.calls g s0_0 s0_1 ji2 t104 t105 w0 _ ?side1 ?side2 A3.o).mono ?_);(case side1=>exact si_ HI0);(case side2=>exact be1_ HB.o (IsS149.ge HI0.o));rintro e w7 ⟨rfl,hi,hb,hk⟩;refine⟨_,rfl,?_⟩;replace O103:=q_ (Kd.R_mono (Kd.R_keep (IsS149.apart (show IsS149 w0 _ g s0_0 s0_1 from si_ HI0) (ra_ O103.o) (by decide)) hk (fun _ h=>h.2)) (fun _ h=>h.1));replace HK:=kt_ HK hk;replace HB:=q_ (hb);replace HI0:=q_ (hi);clear hb))
 go_loopg [3,4] k (fun kq v3 v4 w'=>∃(x3_1:List (S67)) (x4_1:Int) (x1001_1:Int),v4= .int .i64 x4_1∧J0 (spec_l1Rd_rxs.l0 kq x3_1 x4_1 s0_0 x1001_1=some (r1,r2))∧J0 (kq≤k)∧J0 (Kd.R k67 67 w' w.heap.size (fun _=>True) v3 x3_1)∧J0 (IsS149 w0 w' g s0_0 x1001_1)∧J0 (KeepBut w w' g none)∧J0 (Below w0.heap.size w0 w'))
 case atStart=>exact⟨(y101),(wrap64 (1+t104)),(t105),rs_,H',⟨Nat.le_refl _⟩,⟨ra_ O103.o⟩,⟨si_ HI0⟩,⟨kp_ HK⟩,⟨be1_ HB.o (IsS149.ge HI0.o)⟩⟩
 case round=>
  clear H';clear z6_0 z6_1 y6_1;obtain⟨x3_1,x4_1,x1001_1,rfl,HA,HK1,O_3,HI0,HK,HB⟩:=hrel;cases gk with
  |zero=>exact absurd HA.o (by simp[spec_l1Rd_rxs.l0])
  | succ k1=>
   have H:=HA.o;clear HA;simp only[spec_l1Rd_rxs.l0]at H;by_cases c8:x4_1>0;rotate_left
   ·rw[iN c8]at H;have c8b0:decide (0<x4_1)=false:=df_ c8;clear c8;simp only[Option.some.injEq,Prod.mk.injEq]at H;obtain⟨rfl,rfl⟩:=H;go_wp2
    go_ret
    exact⟨_,by rfl,ra_ O_3.o,si_ HI0,be1_ HB.o (IsS149.ge HI0.o),kp_ HK⟩
   rw[iP c8]at H;have c8b0:decide (0<x4_1)=true:=dt_ c8;clear c8;replace H:=Option.bind_eq_some_iff.mp H;obtain⟨⟨t106,t107⟩,A90,H⟩:=H;dsimp only at H;have A9:=q_ A90;clear A90;replace H:=Option.bind_eq_some_iff.mp H;obtain⟨⟨t108,t111⟩,A100,H⟩:=H;dsimp only at H;have A10:=q_ A100;clear A100;obtain⟨c11,H⟩:=ip_ H;have LMc11:=q_ c11;clear c11;generalize hy112:(x3_1++ [(⟨t108⟩:S67)]:List (S67))=y112 at H;have Ny112:=q_ hy112.symm;clear hy112;have H':=q_ H;clear H
   go_wp2_with(first| ((with_reducible refine gate_callee (f:=66) rfl ?_);refine gl_ (some 24) rfl rfl Try.func66 #[.pointer (some ⟨g,0,none⟩), .int .i64 3] ?_;(with_reducible refine(spec_l1Rd_below.calls g s0_0 x1001_1 3 t106 t107 w0 _ ?side1 ?side2 A9.o).mono ?_);(case side1=>exact si_ HI0);(case side2=>exact be1_ HB.o (IsS149.ge HI0.o));rintro e w12 ⟨rfl,hi,hb,hk⟩;refine⟨_,rfl,?_⟩;replace O_3:=q_ (Kd.R_mono (Kd.R_keep (IsS149.apart (show IsS149 w0 _ g s0_0 x1001_1 from si_ HI0) (ra_ O_3.o) (by decide)) hk (fun _ h=>h.2)) (fun _ h=>h.1));replace HK:=kt_ HK hk;replace HB:=q_ (hb);replace HI0:=q_ (hi);clear hb)| ((with_reducible refine gate_callee (f:=125) rfl ?_);refine gl_ (some 26) rfl rfl Try.func125 #[.pointer (some ⟨g,0,none⟩), .int .i64 (wrap64 (1+t106))] ?_;(with_reducible refine(spec_l1Rd_rx.calls k1 g s0_0 t107 (wrap64 (1+t106)) t108 t111 w0 _ ?side1 ?side2 A10.o).mono ?_);(case side1=>exact si_ HI0);(case side2=>exact be1_ HB.o (IsS149.ge HI0.o));rintro e w13 ⟨v109,rfl,ho0,hi,hb,hk⟩;refine⟨_,rfl,?_⟩;have O110:=q_ (Kd.R_lower ho0 (ks_ HK));replace O_3:=q_ (Kd.R_mono (Kd.R_told (Kd.R_oldK (IsS149.apart (show IsS149 w0 _ g s0_0 t107 from si_ HI0) (ra_ O_3.o) (by decide)) hk) (Kd.R_base ho0)) (fun _ h_=>h_.1));replace HK:=kt_ HK hk;replace HB:=q_ (hb);replace HI0:=q_ (hi);clear hb ho0;obtain⟨Ao15,co15,eo15⟩:=Kd.R_slice O110.o;subst eo15)| ((with_reducible refine gate_builtin (b:= .append) (xs:=#[.tmp 21, .tmp 27]) rfl ?_);at_builtin;refine Kd.R_append k67 w.heap.size rfl (.tmp 21) (.tmp 27) 156 67 (.agg #[(.slice none 0 0)]) 24 rfl Try.underlying156 info67 rfl (by decide) (by omega) u3 x3_1 (⟨t108⟩:S67) [.slice Ao15 t108.length co15] (fun _=>True) (fun k_=>((fun _=>True)) k_∧some k_≠(u3:Value).ownBlock) rfl rfl ?aP (fun _ hk=>hk) ?aF ?aO (Below.refl _ _) ?aS ?aL ?_;(case aP=>exact k67_mkM _ _ _ (⟨t108⟩:S67) (Kd.R_mono (Kd.R_apart' (O110.o) (Kd.R_typed O_3.o) (by decide)) (fun k_ hk=>⟨trivial,hk.2⟩)));(case aF=>exact(fun _ _=>trivial));(case aO=>exact(mR_ O_3 (fun _ hk=>trivial)));(case aS=>exact(ks_ HK));(case aL=>have:=LMc11.o;omega);intro v113 w14 ho hb hg hat;rw[←Ny112.o]at ho;have O114:=q_ (ho);replace HB:=q_ (below_weaken (be1_ HB.o (IsS149.ge HI0.o)) HL.o hb);replace HI0:=q_ (IsS149.grown (si_ HI0) hg (IsS149.own_ne HI0.o O_3.o (by decide)));replace HK:=q_ (KeepBut.trans (kp_ HK) (KeepBut.of_grown hg g) (Kd.R_base2 O_3.o));clear O_3 O110 ho hb hg hat))
   go_roundg k1
   case measure=>have:=HK1.o;omega
   case rel=>exact⟨(y112),(wrap64 (x4_1-1)),(t111),rs_,H',⟨by have:=HK1.o;omega⟩,⟨ra_ O114.o⟩,⟨si_ HI0⟩,⟨kp_ HK⟩,⟨be1_ HB.o (IsS149.ge HI0.o)⟩⟩
mutual
def spec_l1Rd_dfa.j0:Nat→List Int→Int→Option (List Int × (List (List Int)) × List Int × Int)
 |0,_,_=>none
 |k+1,x1000,x1001=>(spec_l1Rd_below.f x1000 x1001 3).bind fun bt128=>(spec_l1Rd_dfa.l0 k (wrap64 (1+bt128.1)) 0 x1000 bt128.2 ([]:List Int))
def spec_l1Rd_dfa.l0:Nat→Int→Int→List Int→Int→List Int→Option (List Int × (List (List Int)) × List Int × Int)
 |0,_,_,_,_,_=>none
 |k+1,x7,x9,x1000,x1001,x131000=>if x9<256 then(if x9≥97 then(if x9<(wrap64 ((wrap64 (97+x7))-1))then(if x131000.length<17592186044416 then(spec_l1Rd_dfa.l0 k x7 (wrap64 (x9+1)) x1000 x1001 (x131000++ [wrap64 (x9-96)]))else(none))else(if x131000.length<17592186044416 then(spec_l1Rd_dfa.l0 k x7 (wrap64 (x9+1)) x1000 x1001 (x131000++ [0]))else(none)))else(if x131000.length<17592186044416 then(spec_l1Rd_dfa.l0 k x7 (wrap64 (x9+1)) x1000 x1001 (x131000++ [0]))else(none)))else((spec_l1Rd_below.f x1000 x1001 (mn 7 (wrap64 (1+(wrap64 ((x1000.length:Int) / 5)))))).bind fun bt140=>(spec_l1Rd_dfa.l1 k x7 (wrap64 (1+bt140.1)) 0 x1000 bt140.2 x131000 ([]:List (List Int)) ([]:List Int)))
def spec_l1Rd_dfa.l1:Nat→Int→Int→Int→List Int→Int→List Int→List (List Int)→List Int→Option (List Int × (List (List Int)) × List Int × Int)
 |0,_,_,_,_,_,_,_,_=>none
 |k+1,x7,x11,x12,x1000,x1001,x131000,x131001,x131002=>if x12<x11 then(spec_l1Rd_dfa.l2 k x7 x11 x12 (([]:List Int)) 0 x1000 x1001 x131000 x131001 x131002)else(some (x131000,x131001,x131002,x1001))
def spec_l1Rd_dfa.l2:Nat→Int→Int→Int→List Int→Int→List Int→Int→List Int→List (List Int)→List Int→Option (List Int × (List (List Int)) × List Int × Int)
 |0,_,_,_,_,_,_,_,_,_,_=>none
 |k+1,x7,x11,x12,x13,x14,x1000,x1001,x131000,x131001,x131002=>if x14<x7 then((spec_l1Rd_below.f x1000 x1001 x11).bind fun bt145=>(if x13.length<17592186044416 then(spec_l1Rd_dfa.l2 k x7 x11 x12 (x13++ [bt145.1]) (wrap64 (x14+1)) x1000 bt145.2 x131000 x131001 x131002)else(none)))else(if x131001.length<5864062014805 then((spec_l1Rd_below.f x1000 x1001 4).bind fun bt153=>(if x131002.length<17592186044416 then(spec_l1Rd_dfa.l1 k x7 x11 (wrap64 (x12+1)) x1000 bt153.2 x131000 (x131001++ [x13]) (x131002++ [wrap64 (bt153.1-1)]))else(none)))else(none))
end
def spec_l1Rd_dfa.f(k:Nat)(s0_0:List Int)(s0_1:Int):Option (List Int × (List (List Int)) × List Int × Int):=(spec_l1Rd_once.f s0_0 s0_1 2).bind fun bt102=>(if bt102.1=true then((spec_l1Rd_rxs.f k s0_0 bt102.2).bind fun bt104=>((spec_BuildNfa.f k bt104.1).bind fun bt108=>((spec_BuildDfa.f k bt108.1 bt108.2.1 bt108.2.2.1 60).bind fun bt117=>(if bt108.2.2.2=true then(if bt117.2.2.2=true then(some (bt117.1,bt117.2.1,bt117.2.2.1,bt104.2))else(spec_l1Rd_dfa.j0 k s0_0 bt104.2))else(spec_l1Rd_dfa.j0 k s0_0 bt104.2)))))else(spec_l1Rd_dfa.j0 k s0_0 bt102.2))
def spec_l1Rd_dfa.T25:Bool × List (List Nat × List Nat):=(true,[([],[]),([0],[0]),([],[]),([2],[2]),([3],[3]),([4],[4]),([1,5,3],[1,5]),([0,1,2,3,4,5,6],[]),([7,6,6,0,1,2,3,4,5,6],[6,7])])
def spec_l1Rd_dfa.B25:List Nat:=[0,1,0,4,12,28,63,127,255]
theorem spec_l1Rd_dfa.tab25:rtab .any (opsOf Try.f107 25)=spec_l1Rd_dfa.T25:=by kernel_rfl
theorem spec_l1Rd_dfa.bits25:waitsOk spec_l1Rd_dfa.T25.2 spec_l1Rd_dfa.B25=true:=by kernel_rfl
theorem spec_l1Rd_dfa.calls(k:Nat)(g:Nat)(s0_0:List Int)(s0_1:Int)(r1:List Int)(r2:List (List Int))(r3:List Int)(r4:Int)(w0 w:World)(hI:IsS149 w0 w g s0_0 s0_1)(hB:Below w0.heap.size w0 w)(h:spec_l1Rd_dfa.f k s0_0 s0_1=some (r1,r2,r3,r4)):
  Calls Try.prog 107 #[.pointer (some ⟨g,0,none⟩)] w fun e w'=>∃v0_ v1_ v2_:Value,e= .returned (.agg #[v0_,v1_,v2_])∧Kd.R (Kd.int .i64) 2 w' w.heap.size (fun k_=>(w.heap.size≤k_)∧some k_≠(v2_:Value).ownBlock) v0_ r1∧Kd.N (Kd.slice 2 (Kd.int .i64)) 22 w' w.heap.size (fun k_=>(w.heap.size≤k_)∧some k_≠(v0_:Value).ownBlock∧some k_≠(v2_:Value).ownBlock) v1_ r2∧Kd.R (Kd.int .i64) 2 w' w.heap.size (fun k_=>(w.heap.size≤k_)∧some k_≠(v0_:Value).ownBlock) v2_ r3∧IsS149 w0 w' g s0_0 r4∧Below w0.heap.size w0 w'∧KeepBut w w' g none:=by
 have hu32:=Try.underlying32;have hu60:=Try.underlying60;have HI0:=q_ hI;have HK:=q_ (KeepBut.refl w g none);have HL:=q_ hB.size;clear hI;have HW0:=q_ hB.size;have HB:=q_ hB;clear hB;have H:((spec_l1Rd_once.f s0_0 s0_1 2).bind fun bt102=>(if bt102.1=true then((spec_l1Rd_rxs.f k s0_0 bt102.2).bind fun bt104=>((spec_BuildNfa.f k bt104.1).bind fun bt108=>((spec_BuildDfa.f k bt108.1 bt108.2.1 bt108.2.2.1 60).bind fun bt117=>(if bt108.2.2.2=true then(if bt117.2.2.2=true then(some (bt117.1,bt117.2.1,bt117.2.2.1,bt104.2))else(spec_l1Rd_dfa.j0 k s0_0 bt104.2))else(spec_l1Rd_dfa.j0 k s0_0 bt104.2)))))else(spec_l1Rd_dfa.j0 k s0_0 bt102.2)))=some (r1,r2,r3,r4):=h;clear h;replace H:=Option.bind_eq_some_iff.mp H;obtain⟨⟨t102,t103⟩,A20,H⟩:=H;dsimp only at H;have A2:=q_ A20;clear A20;have HC3:=q_ H;clear H;go_enter Try.func107,Try.ntmps107
 go_upto_if 16 with(first| ((with_reducible refine gate_dst (N:=2) rfl ?_);refine bx_ 2 #[.slice none 0 0, .slice none 0 0, .slice none 0 0] 32 ?_;intro gb101 hg w4 hbox hb;have Q101:=q_ (hbox);have GW101:=gw_ hg HK;have G101:=q_ ((Nat.le_trans HW0.o (by rw[hg];exact(ks_ HK):w.heap.size≤gb101):w0.heap.size≤gb101));have N0_101:=nsl_ hg (show IsS149 w0 _ g s0_0 s0_1 from si_ HI0);have N101_0:=nsg_ hg (show IsS149 w0 _ g s0_0 s0_1 from si_ HI0);replace HK:=kb_ HK hb;replace HB:=q_ (below_step (be1_ HB.o (IsS149.ge HI0.o)) hb);replace HI0:=ib_ HI0 hb;clear hb hbox hg)| ((with_reducible refine gate_callee (f:=55) rfl ?_);refine gl_ (some 16) rfl rfl Try.func55 #[.pointer (some ⟨g,0,none⟩), .int .i64 2] ?_;(with_reducible refine(spec_l1Rd_once.calls g s0_0 s0_1 2 t102 t103 w0 _ ?side1 ?side2 A2.o).mono ?_);(case side1=>exact si1_ HI0 N0_101);(case side2=>exact be2_ HB.o (IsS149.ge HI0.o) G101.o);rintro e w5 ⟨rfl,hi,hb,hk⟩;refine⟨_,rfl,?_⟩;replace Q101:=kbk_ hk Q101 N101_0;replace HK:=kt1_ HK GW101 hk;replace HB:=q_ (hb);replace HI0:=q_ (hi);clear hb))
 (try simp only[Act.put,List.setIfInBounds_toArray,List.set_cons_zero,List.set_cons_succ])
 go_cut [] (fun wc=>∃(kq:Nat) (x1001_2:Int),J0 (spec_l1Rd_dfa.j0 kq s0_0 x1001_2=some (r1,r2,r3,r4))∧J0 (kq≤k)∧J0 (wc.heap[gb101]? =some (.cells #[(.slice none 0 0),(.slice none 0 0),(.slice none 0 0)] 32 (0,0)))∧J0 (IsS149 w0 wc g s0_0 x1001_2)∧J0 (KeepBut w wc g none)∧J0 (Below w0.heap.size w0 wc))
 case first=>
  have H:=HC3.o;clear HC3;by_cases c6:t102=true;rotate_left
  ·replace c6:=Bool.eq_false_iff.mpr c6;subst c6;rw[iN nft_]at H;have H':=q_ H;clear H;go_wp2
   go_meet
   case rel=>exact⟨_,(t103),H',⟨by omega⟩,⟨bk_ Q101.o⟩,⟨si1_ HI0 N0_101⟩,⟨kp1_ HK GW101⟩,⟨be2_ HB.o (IsS149.ge HI0.o) G101.o⟩⟩
  subst c6;rw[iP rfl]at H;replace H:=Option.bind_eq_some_iff.mp H;obtain⟨⟨t104,t107⟩,A70,H⟩:=H;dsimp only at H;have A7:=q_ A70;clear A70;replace H:=Option.bind_eq_some_iff.mp H;obtain⟨⟨t108,t109,t112,t115⟩,A80,H⟩:=H;dsimp only at H;have A8:=q_ A80;clear A80;replace H:=Option.bind_eq_some_iff.mp H;obtain⟨⟨t117,t120,t123,t126⟩,A90,H⟩:=H;dsimp only at H;have A9:=q_ A90;clear A90;by_cases c10:t115=true;rotate_left
  ·replace c10:=Bool.eq_false_iff.mpr c10;subst c10;rw[iN nft_]at H;have H':=q_ H;clear H
   go_wp2_with(first| ((with_reducible refine gate_callee (f:=114) rfl ?_);refine gl_ (some 19) rfl rfl Try.func114 #[.pointer (some ⟨g,0,none⟩)] ?_;(with_reducible refine(spec_l1Rd_rxs.calls k g s0_0 t103 t104 t107 w0 _ ?side1 ?side2 A7.o).mono ?_);(case side1=>exact si1_ HI0 N0_101);(case side2=>exact be2_ HB.o (IsS149.ge HI0.o) G101.o);rintro e w54 ⟨v105,rfl,ho0,hi,hb,hk⟩;refine⟨_,rfl,?_⟩;have O106:=q_ (Kd.N_lower (Kd.N_mono (ok':=fun k_=>(w.heap.size≤k_)∧k_≠gb101∧k_≠g) (Kd.R_N (Kd.R_bound ho0)) (fun k_ hk_=>⟨(Nat.le_trans (ks1_ HK GW101) hk_.2.1),(fb_ Q101 hk_.2.1),(IsS149.fresh (si1_ HI0 N0_101) k_ hk_.2.1)⟩)) (ks1_ HK GW101));replace Q101:=kbk_ hk Q101 N101_0;replace HK:=kt1_ HK GW101 hk;replace HB:=q_ (hb);replace HI0:=q_ (hi);clear hb ho0;obtain⟨Ao55,co55,eo55⟩:=Kd.N_slice O106.o;subst eo55)| ((with_reducible refine gate_callee (f:=113) rfl ?_);refine gl_ (some 20) rfl rfl Try.func113 #[.slice Ao55 t104.length co55] ?_;(with_reducible refine(spec_BuildNfa.calls k _ _ t104 t108 t109 t112 false _ ?side1 ?side2 A8.o).mono ?_);(case side1=>exact ca_ (Kd.N_reads' O106.o).2.2);(case side2=>exact(Kd.N_reads' O106.o).2.1);rintro e w56 ⟨v110,v113,rfl,ho0,ho1,hb⟩;refine⟨_,rfl,?_⟩;have O111:=q_ (Kd.N_lower (Kd.N_mono (ok':=fun k_=>(w.heap.size≤k_)∧some k_≠(v113:Value).ownBlock∧some k_≠(.slice Ao55 t104.length co55:Value).ownBlock∧k_≠gb101∧k_≠g) (Kd.S_N (Kd.S_bound (Kd.S_apart' ho0 (Kd.R_typed ho1) (by decide)))) (fun k_ hk_=>⟨(Nat.le_trans (ks1_ HK GW101) hk_.2.1),hk_.1.2,(Kd.fresh' (Kd.N_lt (na_ O106.o)) k_ hk_.2.1),(fb_ Q101 hk_.2.1),(IsS149.fresh (si1_ HI0 N0_101) k_ hk_.2.1)⟩)) (ks1_ HK GW101));have O114:=q_ (Kd.R_lower (Kd.R_newM (M:=fun k_=>(w.heap.size≤k_)) ho1 (ks1_ HK GW101) (fun k_ h_=>h_)) (ks1_ HK GW101));replace O106:=q_ (Kd.N_mono (Kd.N_told (Kd.N_told (Kd.N_old (na_ O106.o) hb) (Kd.S_base ho0)) (Kd.R_base ho1)) (fun _ h_=>h_.1));replace Q101:=lb_ Q101 hb;replace HK:=kb1_ HK GW101 hb;replace HB:=q_ (below_step (be2_ HB.o (IsS149.ge HI0.o) G101.o) hb);replace HI0:=ib1_ HI0 N0_101 hb;clear hb ho0 ho1)| ((with_reducible refine gate_dst (N:=3) rfl ?_);refine bx_ 3 #[.int .i64 0, .slice none 0 0, .slice none 0 0] 60 ?_;intro gb116 hg w57 hbox hb;have Q116:=q_ (hbox);have GW116:=gw1_ hg HK GW101;have G116:=q_ ((Nat.le_trans HW0.o (by rw[hg];exact(ks1_ HK GW101):w.heap.size≤gb116):w0.heap.size≤gb116));have N101_116:=nl_ hg Q101;have N116_101:=ng_ hg Q101;have N0_116:=nsl_ hg (show IsS149 w0 _ g s0_0 t107 from si1_ HI0 N0_101);have N116_0:=nsg_ hg (show IsS149 w0 _ g s0_0 t107 from si1_ HI0 N0_101);replace O106:=q_ (Kd.N_below (Kd.N_elderB (na_ O106.o) gb116 (Nat.le_of_eq hg.symm)) hb);replace O111:=q_ (Kd.N_below (Kd.N_elderB (na_ O111.o) gb116 (Nat.le_of_eq hg.symm)) hb);replace O114:=bR_ O114 hb;replace Q101:=lb_ Q101 hb;replace HK:=kb1_ HK GW101 hb;replace HB:=q_ (below_step (be2_ HB.o (IsS149.ge HI0.o) G101.o) hb);replace HI0:=ib1_ HI0 N0_101 hb;clear hb hbox hg;have hnb58:=N116_101.o;have hnc58:=N101_116.o;have hnb59:=N116_0.o;have hnc59:=N0_116.o;obtain⟨z60_0,z60_1,z60_2,y60_0,y60_1,y60_2⟩:=d3_ Q116;obtain⟨Ao61,co61,eo61⟩:=Kd.N_slice O111.o;subst eo61;obtain⟨Ao62,co62,eo62⟩:=Kd.R_slice O114.o;subst eo62)| ((with_reducible refine gate_store (t:=60) (p:=3) rfl ?_);refine store_event (t:=60) (p:=3) (v:=?vo_w63) (w1:=(((w57.setCell ⟨gb116,0,none⟩ (.int .i64 t108)).setCell ⟨gb116,1,none⟩ (.slice Ao61 t109.length co61)).setCell ⟨gb116,2,none⟩ (.slice Ao62 t112.length co62))) ?hg ?ho ?hn ?hr ?_;(case ho=>rfl);(case hg=>rfl);(case hn=>rfl);(case hr=>first| (go_simp;done)| (go_simp;rfl));intro w63 hw;have n0_:J0 (Kd.N k67 67 w63 w.heap.size (fun k_=>(w.heap.size≤k_)∧some k_≠(.slice Ao61 t109.length co61:Value).ownBlock∧some k_≠(.slice Ao62 t112.length co62:Value).ownBlock∧k_≠gb101∧k_≠g∧k_≠gb116) (.slice Ao55 t104.length co55) t104):=⟨(by rw[hw];exact(Kd.N_mono (rfN_ (Kd.N_mono O106.o (fun k_ hk=>(⟨hk,hk.2⟩:_∧k_≠gb116)))) (fun _ hk=>⟨hk.1.1.1.1.1,⟨hk.1.1.1.2,⟨hk.1.1.2,⟨hk.1.1.1.1.2.1,⟨hk.1.1.1.1.2.2,hk.1.2⟩⟩⟩⟩⟩)))⟩;have n1_:J0 (Kd.N k116 116 w63 w.heap.size (fun k_=>(w.heap.size≤k_)∧some k_≠(.slice Ao55 t104.length co55:Value).ownBlock∧some k_≠(.slice Ao62 t112.length co62:Value).ownBlock∧k_≠gb101∧k_≠g∧k_≠gb116) (.slice Ao61 t109.length co61) t109):=⟨(by rw[hw];exact(Kd.N_mono (rfN_ (Kd.N_mono O111.o (fun k_ hk=>(⟨hk,hk.2⟩:_∧k_≠gb116)))) (fun _ hk=>⟨hk.1.1.1,⟨hk.1.1.2.2.1,⟨hk.1.1.2.1,⟨hk.1.1.2.2.2.1,⟨hk.1.1.2.2.2.2,hk.1.2⟩⟩⟩⟩⟩)))⟩;have n2_:J0 (Kd.R k138 138 w63 w.heap.size (fun k_=>(w.heap.size≤k_)) (.slice Ao62 t112.length co62) t112):=⟨(by rw[hw];exact(Kd.R_mono (rfR_ (Kd.R_types O114.o Q116.o (by decide))) (fun _ hk=>hk.1.1)))⟩;have n3_:J0 (w63.heap[gb101]? =some (.cells #[.slice none 0 0, .slice none 0 0, .slice none 0 0] 32 (0,0))):=⟨(by rw[hw];exact(bw_ Q101 N101_116))⟩;have n4_:J0 (w63.heap[gb116]? =some (.cells #[.int .i64 t108, .slice Ao61 t109.length co61, .slice Ao62 t112.length co62] 60 (0,0))):=⟨(by rw[hw];exact(bp_ Q116))⟩;have n5_:J0 (IsS149 w0 w63 g s0_0 t107):=⟨(by rw[hw];exact(si2_ HI0 N0_101 N0_116))⟩;have n6_:J0 (KeepBut w w63 g none):=⟨(by rw[hw];exact(kp2_ HK GW101 GW116))⟩;have n7_:J0 (Below w0.heap.size w0 w63):=⟨(by rw[hw];exact(be3_ HB.o (IsS149.ge HI0.o) G101.o G116.o))⟩;clear hw O106 O111 O114 Q101 Q116 HI0 HK HB;have O106:=n0_;have O111:=n1_;have O114:=n2_;have Q101:=n3_;have Q116:=n4_;have HI0:=n5_;have HK:=n6_;have HB:=n7_;clear n0_ n1_ n2_ n3_ n4_ n5_ n6_ n7_;obtain⟨z64_0,z64_1,z64_2,y64_0,y64_1,y64_2⟩:=d3_ Q116)| ((with_reducible refine gate_callee (f:=31) rfl ?_);refine gl_ (some 25) rfl rfl Try.func31 #[.agg #[.int .i64 t108, .slice Ao61 t109.length co61, .slice Ao62 t112.length co62], .int .i64 60] ?_;(with_reducible refine(spec_BuildDfa.calls k t108 (fun k_=>((w.heap.size≤k_)∧(some k_≠(.slice Ao55 t104.length co55:Value).ownBlock∧(some k_≠(.slice Ao62 t112.length co62:Value).ownBlock∧(k_≠gb101∧(k_≠g∧k_≠gb116)))))) _ _ t109 _ _ t112 60 t117 t120 t123 t126 _ ?side1 ?side2 ?side3 A9.o).mono ?_);(case side1=>exact Kd.N_V (O111.o));(case side2=>exact ca_ (Kd.R_reads' O114.o).2.2);(case side3=>exact(Kd.R_reads' O114.o).2.1);rintro e w65 ⟨v118,v121,v124,rfl,ho0,ho1,ho2,hb⟩;refine⟨_,rfl,?_⟩;have O119:=q_ (Kd.R_lower (Kd.R_newM (M:=fun k_=>(w.heap.size≤k_)) (Kd.R_mono (ok':=fun k_=>some k_≠(v124:Value).ownBlock) ho0 (fun _ hk_=>hk_.2)) (ks2_ HK GW101 GW116) (fun k_ h_=>h_)) (ks2_ HK GW101 GW116));have O122:=q_ (Kd.N_lower (Kd.N_mono (ok':=fun k_=>(w.heap.size≤k_)∧some k_≠(v118:Value).ownBlock∧some k_≠(v124:Value).ownBlock∧some k_≠(.slice Ao55 t104.length co55:Value).ownBlock∧some k_≠(.slice Ao62 t112.length co62:Value).ownBlock∧k_≠gb101∧k_≠gb116∧k_≠g) ho1 (fun k_ hk_=>⟨Or.elim hk_.1 (fun hs_=>hs_.1) (fun hn_=>(Nat.le_trans (ks2_ HK GW101 GW116) hn_)),hk_.2.1,hk_.2.2,Or.elim hk_.1 (fun hs_=>hs_.2.1) (fun hn_=>(Kd.fresh' (Kd.N_lt (na_ O106.o)) k_ hn_)),Or.elim hk_.1 (fun hs_=>hs_.2.2.1) (fun hn_=>(Kd.fresh' (Kd.R_lt (ra_ O114.o)) k_ hn_)),Or.elim hk_.1 (fun hs_=>hs_.2.2.2.1) (fun hn_=>(fb_ Q101 hn_)),Or.elim hk_.1 (fun hs_=>hs_.2.2.2.2.2) (fun hn_=>(fb_ Q116 hn_)),Or.elim hk_.1 (fun hs_=>hs_.2.2.2.2.1) (fun hn_=>(IsS149.fresh (si2_ HI0 N0_101 N0_116) k_ hn_))⟩)) (ks2_ HK GW101 GW116));have O125:=q_ (Kd.R_lower (Kd.R_newM (M:=fun k_=>(w.heap.size≤k_)) (Kd.R_mono (ok':=fun k_=>some k_≠(v118:Value).ownBlock) ho2 (fun _ hk_=>hk_.2)) (ks2_ HK GW101 GW116) (fun k_ h_=>h_)) (ks2_ HK GW101 GW116));replace O106:=q_ (Kd.N_mono (Kd.N_told (Kd.N_told (Kd.N_told (Kd.N_old (na_ O106.o) hb) (Kd.R_base ho0)) (Kd.N_base ho1)) (Kd.R_base ho2)) (fun _ h_=>h_.1));replace O111:=q_ (Kd.N_mono (Kd.N_told (Kd.N_told (Kd.N_told (Kd.N_old (na_ O111.o) hb) (Kd.R_base ho0)) (Kd.N_base ho1)) (Kd.R_base ho2)) (fun _ h_=>h_.1));replace O114:=bR_ O114 hb;replace Q101:=lb_ Q101 hb;replace Q116:=lb_ Q116 hb;replace HK:=kb2_ HK GW101 GW116 hb;replace HB:=q_ (below_step (be3_ HB.o (IsS149.ge HI0.o) G101.o G116.o) hb);replace HI0:=ib2_ HI0 N0_101 N0_116 hb;clear hb ho0 ho1 ho2)| ((with_reducible refine gate_dst (N:=5) rfl ?_);refine bx_ 5 #[.slice none 0 0, .slice none 0 0, .slice none 0 0] 32 ?_;intro gb127 hg w66 hbox hb;have Q127:=q_ (hbox);have GW127:=gw2_ hg HK GW101 GW116;have G127:=q_ ((Nat.le_trans HW0.o (by rw[hg];exact(ks2_ HK GW101 GW116):w.heap.size≤gb127):w0.heap.size≤gb127));have N101_127:=nl_ hg Q101;have N127_101:=ng_ hg Q101;have N116_127:=nl_ hg Q116;have N127_116:=ng_ hg Q116;have N0_127:=nsl_ hg (show IsS149 w0 _ g s0_0 t107 from si2_ HI0 N0_101 N0_116);have N127_0:=nsg_ hg (show IsS149 w0 _ g s0_0 t107 from si2_ HI0 N0_101 N0_116);replace O106:=q_ (Kd.N_below (Kd.N_elderB (na_ O106.o) gb127 (Nat.le_of_eq hg.symm)) hb);replace O111:=q_ (Kd.N_below (Kd.N_elderB (na_ O111.o) gb127 (Nat.le_of_eq hg.symm)) hb);replace O114:=bR_ O114 hb;replace O119:=bR_ O119 hb;replace O122:=q_ (Kd.N_below (Kd.N_elderB (na_ O122.o) gb127 (Nat.le_of_eq hg.symm)) hb);replace O125:=bR_ O125 hb;replace Q101:=lb_ Q101 hb;replace Q116:=lb_ Q116 hb;replace HK:=kb2_ HK GW101 GW116 hb;replace HB:=q_ (below_step (be3_ HB.o (IsS149.ge HI0.o) G101.o G116.o) hb);replace HI0:=ib2_ HI0 N0_101 N0_116 hb;clear hb hbox hg;obtain⟨Ao67,co67,eo67⟩:=Kd.R_slice O119.o;subst eo67;have hnb68:=N127_101.o;have hnc68:=N101_127.o;have hnb69:=N127_116.o;have hnc69:=N116_127.o;have hnb70:=N127_0.o;have hnc70:=N0_127.o;obtain⟨z71_0,z71_1,z71_2,y71_0,y71_1,y71_2⟩:=d3_ Q127;obtain⟨Ao72,co72,eo72⟩:=Kd.N_slice O122.o;subst eo72;obtain⟨Ao73,co73,eo73⟩:=Kd.R_slice O125.o;subst eo73))
   go_meet
   case rel=>exact⟨_,(t107),H',⟨by omega⟩,⟨by(with_reducible repeat(first|refine blk_drewN ?_ _|refine blk_drew ?_|refine blk_alloc ?_ _));refine blk_far ?_ N101_127.o _;(with_reducible repeat(first|refine blk_drewN ?_ _|refine blk_drew ?_|refine blk_alloc ?_ _));refine blk_far ?_ N101_127.o _;(with_reducible repeat(first|refine blk_drewN ?_ _|refine blk_drew ?_|refine blk_alloc ?_ _));refine blk_far ?_ N101_127.o _;(with_reducible repeat(first|refine blk_drewN ?_ _|refine blk_drew ?_|refine blk_alloc ?_ _));exact Q101.o⟩,⟨si3_ HI0 N0_101 N0_116 N0_127⟩,⟨kp3_ HK GW101 GW116 GW127⟩,⟨be4_ HB.o (IsS149.ge HI0.o) G101.o G116.o G127.o⟩⟩
  subst c10;rw[iP rfl]at H;by_cases c11:t126=true;rotate_left
  ·replace c11:=Bool.eq_false_iff.mpr c11;subst c11;rw[iN nft_]at H;have H':=q_ H;clear H
   go_wp2_with(first| ((with_reducible refine gate_callee (f:=114) rfl ?_);refine gl_ (some 19) rfl rfl Try.func114 #[.pointer (some ⟨g,0,none⟩)] ?_;(with_reducible refine(spec_l1Rd_rxs.calls k g s0_0 t103 t104 t107 w0 _ ?side1 ?side2 A7.o).mono ?_);(case side1=>exact si1_ HI0 N0_101);(case side2=>exact be2_ HB.o (IsS149.ge HI0.o) G101.o);rintro e w34 ⟨v105,rfl,ho0,hi,hb,hk⟩;refine⟨_,rfl,?_⟩;have O106:=q_ (Kd.N_lower (Kd.N_mono (ok':=fun k_=>(w.heap.size≤k_)∧k_≠gb101∧k_≠g) (Kd.R_N (Kd.R_bound ho0)) (fun k_ hk_=>⟨(Nat.le_trans (ks1_ HK GW101) hk_.2.1),(fb_ Q101 hk_.2.1),(IsS149.fresh (si1_ HI0 N0_101) k_ hk_.2.1)⟩)) (ks1_ HK GW101));replace Q101:=kbk_ hk Q101 N101_0;replace HK:=kt1_ HK GW101 hk;replace HB:=q_ (hb);replace HI0:=q_ (hi);clear hb ho0;obtain⟨Ao35,co35,eo35⟩:=Kd.N_slice O106.o;subst eo35)| ((with_reducible refine gate_callee (f:=113) rfl ?_);refine gl_ (some 20) rfl rfl Try.func113 #[.slice Ao35 t104.length co35] ?_;(with_reducible refine(spec_BuildNfa.calls k _ _ t104 t108 t109 t112 true _ ?side1 ?side2 A8.o).mono ?_);(case side1=>exact ca_ (Kd.N_reads' O106.o).2.2);(case side2=>exact(Kd.N_reads' O106.o).2.1);rintro e w36 ⟨v110,v113,rfl,ho0,ho1,hb⟩;refine⟨_,rfl,?_⟩;have O111:=q_ (Kd.N_lower (Kd.N_mono (ok':=fun k_=>(w.heap.size≤k_)∧some k_≠(v113:Value).ownBlock∧some k_≠(.slice Ao35 t104.length co35:Value).ownBlock∧k_≠gb101∧k_≠g) (Kd.S_N (Kd.S_bound (Kd.S_apart' ho0 (Kd.R_typed ho1) (by decide)))) (fun k_ hk_=>⟨(Nat.le_trans (ks1_ HK GW101) hk_.2.1),hk_.1.2,(Kd.fresh' (Kd.N_lt (na_ O106.o)) k_ hk_.2.1),(fb_ Q101 hk_.2.1),(IsS149.fresh (si1_ HI0 N0_101) k_ hk_.2.1)⟩)) (ks1_ HK GW101));have O114:=q_ (Kd.R_lower (Kd.R_newM (M:=fun k_=>(w.heap.size≤k_)) ho1 (ks1_ HK GW101) (fun k_ h_=>h_)) (ks1_ HK GW101));replace O106:=q_ (Kd.N_mono (Kd.N_told (Kd.N_told (Kd.N_old (na_ O106.o) hb) (Kd.S_base ho0)) (Kd.R_base ho1)) (fun _ h_=>h_.1));replace Q101:=lb_ Q101 hb;replace HK:=kb1_ HK GW101 hb;replace HB:=q_ (below_step (be2_ HB.o (IsS149.ge HI0.o) G101.o) hb);replace HI0:=ib1_ HI0 N0_101 hb;clear hb ho0 ho1)| ((with_reducible refine gate_dst (N:=3) rfl ?_);refine bx_ 3 #[.int .i64 0, .slice none 0 0, .slice none 0 0] 60 ?_;intro gb116 hg w37 hbox hb;have Q116:=q_ (hbox);have GW116:=gw1_ hg HK GW101;have G116:=q_ ((Nat.le_trans HW0.o (by rw[hg];exact(ks1_ HK GW101):w.heap.size≤gb116):w0.heap.size≤gb116));have N101_116:=nl_ hg Q101;have N116_101:=ng_ hg Q101;have N0_116:=nsl_ hg (show IsS149 w0 _ g s0_0 t107 from si1_ HI0 N0_101);have N116_0:=nsg_ hg (show IsS149 w0 _ g s0_0 t107 from si1_ HI0 N0_101);replace O106:=q_ (Kd.N_below (Kd.N_elderB (na_ O106.o) gb116 (Nat.le_of_eq hg.symm)) hb);replace O111:=q_ (Kd.N_below (Kd.N_elderB (na_ O111.o) gb116 (Nat.le_of_eq hg.symm)) hb);replace O114:=bR_ O114 hb;replace Q101:=lb_ Q101 hb;replace HK:=kb1_ HK GW101 hb;replace HB:=q_ (below_step (be2_ HB.o (IsS149.ge HI0.o) G101.o) hb);replace HI0:=ib1_ HI0 N0_101 hb;clear hb hbox hg;have hnb38:=N116_101.o;have hnc38:=N101_116.o;have hnb39:=N116_0.o;have hnc39:=N0_116.o;obtain⟨z40_0,z40_1,z40_2,y40_0,y40_1,y40_2⟩:=d3_ Q116;obtain⟨Ao41,co41,eo41⟩:=Kd.N_slice O111.o;subst eo41;obtain⟨Ao42,co42,eo42⟩:=Kd.R_slice O114.o;subst eo42)| ((with_reducible refine gate_store (t:=60) (p:=3) rfl ?_);refine store_event (t:=60) (p:=3) (v:=?vo_w43) (w1:=(((w37.setCell ⟨gb116,0,none⟩ (.int .i64 t108)).setCell ⟨gb116,1,none⟩ (.slice Ao41 t109.length co41)).setCell ⟨gb116,2,none⟩ (.slice Ao42 t112.length co42))) ?hg ?ho ?hn ?hr ?_;(case ho=>rfl);(case hg=>rfl);(case hn=>rfl);(case hr=>first| (go_simp;done)| (go_simp;rfl));intro w43 hw;have n0_:J0 (Kd.N k67 67 w43 w.heap.size (fun k_=>(w.heap.size≤k_)∧some k_≠(.slice Ao41 t109.length co41:Value).ownBlock∧some k_≠(.slice Ao42 t112.length co42:Value).ownBlock∧k_≠gb101∧k_≠g∧k_≠gb116) (.slice Ao35 t104.length co35) t104):=⟨(by rw[hw];exact(Kd.N_mono (rfN_ (Kd.N_mono O106.o (fun k_ hk=>(⟨hk,hk.2⟩:_∧k_≠gb116)))) (fun _ hk=>⟨hk.1.1.1.1.1,⟨hk.1.1.1.2,⟨hk.1.1.2,⟨hk.1.1.1.1.2.1,⟨hk.1.1.1.1.2.2,hk.1.2⟩⟩⟩⟩⟩)))⟩;have n1_:J0 (Kd.N k116 116 w43 w.heap.size (fun k_=>(w.heap.size≤k_)∧some k_≠(.slice Ao35 t104.length co35:Value).ownBlock∧some k_≠(.slice Ao42 t112.length co42:Value).ownBlock∧k_≠gb101∧k_≠g∧k_≠gb116) (.slice Ao41 t109.length co41) t109):=⟨(by rw[hw];exact(Kd.N_mono (rfN_ (Kd.N_mono O111.o (fun k_ hk=>(⟨hk,hk.2⟩:_∧k_≠gb116)))) (fun _ hk=>⟨hk.1.1.1,⟨hk.1.1.2.2.1,⟨hk.1.1.2.1,⟨hk.1.1.2.2.2.1,⟨hk.1.1.2.2.2.2,hk.1.2⟩⟩⟩⟩⟩)))⟩;have n2_:J0 (Kd.R k138 138 w43 w.heap.size (fun k_=>(w.heap.size≤k_)) (.slice Ao42 t112.length co42) t112):=⟨(by rw[hw];exact(Kd.R_mono (rfR_ (Kd.R_types O114.o Q116.o (by decide))) (fun _ hk=>hk.1.1)))⟩;have n3_:J0 (w43.heap[gb101]? =some (.cells #[.slice none 0 0, .slice none 0 0, .slice none 0 0] 32 (0,0))):=⟨(by rw[hw];exact(bw_ Q101 N101_116))⟩;have n4_:J0 (w43.heap[gb116]? =some (.cells #[.int .i64 t108, .slice Ao41 t109.length co41, .slice Ao42 t112.length co42] 60 (0,0))):=⟨(by rw[hw];exact(bp_ Q116))⟩;have n5_:J0 (IsS149 w0 w43 g s0_0 t107):=⟨(by rw[hw];exact(si2_ HI0 N0_101 N0_116))⟩;have n6_:J0 (KeepBut w w43 g none):=⟨(by rw[hw];exact(kp2_ HK GW101 GW116))⟩;have n7_:J0 (Below w0.heap.size w0 w43):=⟨(by rw[hw];exact(be3_ HB.o (IsS149.ge HI0.o) G101.o G116.o))⟩;clear hw O106 O111 O114 Q101 Q116 HI0 HK HB;have O106:=n0_;have O111:=n1_;have O114:=n2_;have Q101:=n3_;have Q116:=n4_;have HI0:=n5_;have HK:=n6_;have HB:=n7_;clear n0_ n1_ n2_ n3_ n4_ n5_ n6_ n7_;obtain⟨z44_0,z44_1,z44_2,y44_0,y44_1,y44_2⟩:=d3_ Q116)| ((with_reducible refine gate_callee (f:=31) rfl ?_);refine gl_ (some 25) rfl rfl Try.func31 #[.agg #[.int .i64 t108, .slice Ao41 t109.length co41, .slice Ao42 t112.length co42], .int .i64 60] ?_;(with_reducible refine(spec_BuildDfa.calls k t108 (fun k_=>((w.heap.size≤k_)∧(some k_≠(.slice Ao35 t104.length co35:Value).ownBlock∧(some k_≠(.slice Ao42 t112.length co42:Value).ownBlock∧(k_≠gb101∧(k_≠g∧k_≠gb116)))))) _ _ t109 _ _ t112 60 t117 t120 t123 false _ ?side1 ?side2 ?side3 A9.o).mono ?_);(case side1=>exact Kd.N_V (O111.o));(case side2=>exact ca_ (Kd.R_reads' O114.o).2.2);(case side3=>exact(Kd.R_reads' O114.o).2.1);rintro e w45 ⟨v118,v121,v124,rfl,ho0,ho1,ho2,hb⟩;refine⟨_,rfl,?_⟩;have O119:=q_ (Kd.R_lower (Kd.R_newM (M:=fun k_=>(w.heap.size≤k_)) (Kd.R_mono (ok':=fun k_=>some k_≠(v124:Value).ownBlock) ho0 (fun _ hk_=>hk_.2)) (ks2_ HK GW101 GW116) (fun k_ h_=>h_)) (ks2_ HK GW101 GW116));have O122:=q_ (Kd.N_lower (Kd.N_mono (ok':=fun k_=>(w.heap.size≤k_)∧some k_≠(v118:Value).ownBlock∧some k_≠(v124:Value).ownBlock∧some k_≠(.slice Ao35 t104.length co35:Value).ownBlock∧some k_≠(.slice Ao42 t112.length co42:Value).ownBlock∧k_≠gb101∧k_≠gb116∧k_≠g) ho1 (fun k_ hk_=>⟨Or.elim hk_.1 (fun hs_=>hs_.1) (fun hn_=>(Nat.le_trans (ks2_ HK GW101 GW116) hn_)),hk_.2.1,hk_.2.2,Or.elim hk_.1 (fun hs_=>hs_.2.1) (fun hn_=>(Kd.fresh' (Kd.N_lt (na_ O106.o)) k_ hn_)),Or.elim hk_.1 (fun hs_=>hs_.2.2.1) (fun hn_=>(Kd.fresh' (Kd.R_lt (ra_ O114.o)) k_ hn_)),Or.elim hk_.1 (fun hs_=>hs_.2.2.2.1) (fun hn_=>(fb_ Q101 hn_)),Or.elim hk_.1 (fun hs_=>hs_.2.2.2.2.2) (fun hn_=>(fb_ Q116 hn_)),Or.elim hk_.1 (fun hs_=>hs_.2.2.2.2.1) (fun hn_=>(IsS149.fresh (si2_ HI0 N0_101 N0_116) k_ hn_))⟩)) (ks2_ HK GW101 GW116));have O125:=q_ (Kd.R_lower (Kd.R_newM (M:=fun k_=>(w.heap.size≤k_)) (Kd.R_mono (ok':=fun k_=>some k_≠(v118:Value).ownBlock) ho2 (fun _ hk_=>hk_.2)) (ks2_ HK GW101 GW116) (fun k_ h_=>h_)) (ks2_ HK GW101 GW116));replace O106:=q_ (Kd.N_mono (Kd.N_told (Kd.N_told (Kd.N_told (Kd.N_old (na_ O106.o) hb) (Kd.R_base ho0)) (Kd.N_base ho1)) (Kd.R_base ho2)) (fun _ h_=>h_.1));replace O111:=q_ (Kd.N_mono (Kd.N_told (Kd.N_told (Kd.N_told (Kd.N_old (na_ O111.o) hb) (Kd.R_base ho0)) (Kd.N_base ho1)) (Kd.R_base ho2)) (fun _ h_=>h_.1));replace O114:=bR_ O114 hb;replace Q101:=lb_ Q101 hb;replace Q116:=lb_ Q116 hb;replace HK:=kb2_ HK GW101 GW116 hb;replace HB:=q_ (below_step (be3_ HB.o (IsS149.ge HI0.o) G101.o G116.o) hb);replace HI0:=ib2_ HI0 N0_101 N0_116 hb;clear hb ho0 ho1 ho2)| ((with_reducible refine gate_dst (N:=5) rfl ?_);refine bx_ 5 #[.slice none 0 0, .slice none 0 0, .slice none 0 0] 32 ?_;intro gb127 hg w46 hbox hb;have Q127:=q_ (hbox);have GW127:=gw2_ hg HK GW101 GW116;have G127:=q_ ((Nat.le_trans HW0.o (by rw[hg];exact(ks2_ HK GW101 GW116):w.heap.size≤gb127):w0.heap.size≤gb127));have N101_127:=nl_ hg Q101;have N127_101:=ng_ hg Q101;have N116_127:=nl_ hg Q116;have N127_116:=ng_ hg Q116;have N0_127:=nsl_ hg (show IsS149 w0 _ g s0_0 t107 from si2_ HI0 N0_101 N0_116);have N127_0:=nsg_ hg (show IsS149 w0 _ g s0_0 t107 from si2_ HI0 N0_101 N0_116);replace O106:=q_ (Kd.N_below (Kd.N_elderB (na_ O106.o) gb127 (Nat.le_of_eq hg.symm)) hb);replace O111:=q_ (Kd.N_below (Kd.N_elderB (na_ O111.o) gb127 (Nat.le_of_eq hg.symm)) hb);replace O114:=bR_ O114 hb;replace O119:=bR_ O119 hb;replace O122:=q_ (Kd.N_below (Kd.N_elderB (na_ O122.o) gb127 (Nat.le_of_eq hg.symm)) hb);replace O125:=bR_ O125 hb;replace Q101:=lb_ Q101 hb;replace Q116:=lb_ Q116 hb;replace HK:=kb2_ HK GW101 GW116 hb;replace HB:=q_ (below_step (be3_ HB.o (IsS149.ge HI0.o) G101.o G116.o) hb);replace HI0:=ib2_ HI0 N0_101 N0_116 hb;clear hb hbox hg;obtain⟨Ao47,co47,eo47⟩:=Kd.R_slice O119.o;subst eo47;have hnb48:=N127_101.o;have hnc48:=N101_127.o;have hnb49:=N127_116.o;have hnc49:=N116_127.o;have hnb50:=N127_0.o;have hnc50:=N0_127.o;obtain⟨z51_0,z51_1,z51_2,y51_0,y51_1,y51_2⟩:=d3_ Q127;obtain⟨Ao52,co52,eo52⟩:=Kd.N_slice O122.o;subst eo52;obtain⟨Ao53,co53,eo53⟩:=Kd.R_slice O125.o;subst eo53))
   go_meet
   case rel=>exact⟨_,(t107),H',⟨by omega⟩,⟨by(with_reducible repeat(first|refine blk_drewN ?_ _|refine blk_drew ?_|refine blk_alloc ?_ _));refine blk_far ?_ N101_127.o _;(with_reducible repeat(first|refine blk_drewN ?_ _|refine blk_drew ?_|refine blk_alloc ?_ _));refine blk_far ?_ N101_127.o _;(with_reducible repeat(first|refine blk_drewN ?_ _|refine blk_drew ?_|refine blk_alloc ?_ _));refine blk_far ?_ N101_127.o _;(with_reducible repeat(first|refine blk_drewN ?_ _|refine blk_drew ?_|refine blk_alloc ?_ _));exact Q101.o⟩,⟨si3_ HI0 N0_101 N0_116 N0_127⟩,⟨kp3_ HK GW101 GW116 GW127⟩,⟨be4_ HB.o (IsS149.ge HI0.o) G101.o G116.o G127.o⟩⟩
  subst c11;rw[iP rfl]at H;simp only[Option.some.injEq,Prod.mk.injEq]at H;obtain⟨rfl,rfl,rfl,rfl⟩:=H
  go_wp2_with(first| ((with_reducible refine gate_callee (f:=114) rfl ?_);refine gl_ (some 19) rfl rfl Try.func114 #[.pointer (some ⟨g,0,none⟩)] ?_;(with_reducible refine(spec_l1Rd_rxs.calls k g s0_0 t103 t104 t107 w0 _ ?side1 ?side2 A7.o).mono ?_);(case side1=>exact si1_ HI0 N0_101);(case side2=>exact be2_ HB.o (IsS149.ge HI0.o) G101.o);rintro e w12 ⟨v105,rfl,ho0,hi,hb,hk⟩;refine⟨_,rfl,?_⟩;have O106:=q_ (Kd.N_lower (Kd.N_mono (ok':=fun k_=>(w.heap.size≤k_)∧k_≠gb101∧k_≠g) (Kd.R_N (Kd.R_bound ho0)) (fun k_ hk_=>⟨(Nat.le_trans (ks1_ HK GW101) hk_.2.1),(fb_ Q101 hk_.2.1),(IsS149.fresh (si1_ HI0 N0_101) k_ hk_.2.1)⟩)) (ks1_ HK GW101));replace Q101:=kbk_ hk Q101 N101_0;replace HK:=kt1_ HK GW101 hk;replace HB:=q_ (hb);replace HI0:=q_ (hi);clear hb ho0;obtain⟨Ao13,co13,eo13⟩:=Kd.N_slice O106.o;subst eo13)| ((with_reducible refine gate_callee (f:=113) rfl ?_);refine gl_ (some 20) rfl rfl Try.func113 #[.slice Ao13 t104.length co13] ?_;(with_reducible refine(spec_BuildNfa.calls k _ _ t104 t108 t109 t112 true _ ?side1 ?side2 A8.o).mono ?_);(case side1=>exact ca_ (Kd.N_reads' O106.o).2.2);(case side2=>exact(Kd.N_reads' O106.o).2.1);rintro e w14 ⟨v110,v113,rfl,ho0,ho1,hb⟩;refine⟨_,rfl,?_⟩;have O111:=q_ (Kd.N_lower (Kd.N_mono (ok':=fun k_=>(w.heap.size≤k_)∧some k_≠(v113:Value).ownBlock∧some k_≠(.slice Ao13 t104.length co13:Value).ownBlock∧k_≠gb101∧k_≠g) (Kd.S_N (Kd.S_bound (Kd.S_apart' ho0 (Kd.R_typed ho1) (by decide)))) (fun k_ hk_=>⟨(Nat.le_trans (ks1_ HK GW101) hk_.2.1),hk_.1.2,(Kd.fresh' (Kd.N_lt (na_ O106.o)) k_ hk_.2.1),(fb_ Q101 hk_.2.1),(IsS149.fresh (si1_ HI0 N0_101) k_ hk_.2.1)⟩)) (ks1_ HK GW101));have O114:=q_ (Kd.R_lower (Kd.R_newM (M:=fun k_=>(w.heap.size≤k_)) ho1 (ks1_ HK GW101) (fun k_ h_=>h_)) (ks1_ HK GW101));replace O106:=q_ (Kd.N_mono (Kd.N_told (Kd.N_told (Kd.N_old (na_ O106.o) hb) (Kd.S_base ho0)) (Kd.R_base ho1)) (fun _ h_=>h_.1));replace Q101:=lb_ Q101 hb;replace HK:=kb1_ HK GW101 hb;replace HB:=q_ (below_step (be2_ HB.o (IsS149.ge HI0.o) G101.o) hb);replace HI0:=ib1_ HI0 N0_101 hb;clear hb ho0 ho1)| ((with_reducible refine gate_dst (N:=3) rfl ?_);refine bx_ 3 #[.int .i64 0, .slice none 0 0, .slice none 0 0] 60 ?_;intro gb116 hg w15 hbox hb;have Q116:=q_ (hbox);have GW116:=gw1_ hg HK GW101;have G116:=q_ ((Nat.le_trans HW0.o (by rw[hg];exact(ks1_ HK GW101):w.heap.size≤gb116):w0.heap.size≤gb116));have N101_116:=nl_ hg Q101;have N116_101:=ng_ hg Q101;have N0_116:=nsl_ hg (show IsS149 w0 _ g s0_0 t107 from si1_ HI0 N0_101);have N116_0:=nsg_ hg (show IsS149 w0 _ g s0_0 t107 from si1_ HI0 N0_101);replace O106:=q_ (Kd.N_below (Kd.N_elderB (na_ O106.o) gb116 (Nat.le_of_eq hg.symm)) hb);replace O111:=q_ (Kd.N_below (Kd.N_elderB (na_ O111.o) gb116 (Nat.le_of_eq hg.symm)) hb);replace O114:=bR_ O114 hb;replace Q101:=lb_ Q101 hb;replace HK:=kb1_ HK GW101 hb;replace HB:=q_ (below_step (be2_ HB.o (IsS149.ge HI0.o) G101.o) hb);replace HI0:=ib1_ HI0 N0_101 hb;clear hb hbox hg;have hnb16:=N116_101.o;have hnc16:=N101_116.o;have hnb17:=N116_0.o;have hnc17:=N0_116.o;obtain⟨z18_0,z18_1,z18_2,y18_0,y18_1,y18_2⟩:=d3_ Q116;obtain⟨Ao19,co19,eo19⟩:=Kd.N_slice O111.o;subst eo19;obtain⟨Ao20,co20,eo20⟩:=Kd.R_slice O114.o;subst eo20)| ((with_reducible refine gate_store (t:=60) (p:=3) rfl ?_);refine store_event (t:=60) (p:=3) (v:=?vo_w21) (w1:=(((w15.setCell ⟨gb116,0,none⟩ (.int .i64 t108)).setCell ⟨gb116,1,none⟩ (.slice Ao19 t109.length co19)).setCell ⟨gb116,2,none⟩ (.slice Ao20 t112.length co20))) ?hg ?ho ?hn ?hr ?_;(case ho=>rfl);(case hg=>rfl);(case hn=>rfl);(case hr=>first| (go_simp;done)| (go_simp;rfl));intro w21 hw;have n0_:J0 (Kd.N k67 67 w21 w.heap.size (fun k_=>(w.heap.size≤k_)∧some k_≠(.slice Ao19 t109.length co19:Value).ownBlock∧some k_≠(.slice Ao20 t112.length co20:Value).ownBlock∧k_≠gb101∧k_≠g∧k_≠gb116) (.slice Ao13 t104.length co13) t104):=⟨(by rw[hw];exact(Kd.N_mono (rfN_ (Kd.N_mono O106.o (fun k_ hk=>(⟨hk,hk.2⟩:_∧k_≠gb116)))) (fun _ hk=>⟨hk.1.1.1.1.1,⟨hk.1.1.1.2,⟨hk.1.1.2,⟨hk.1.1.1.1.2.1,⟨hk.1.1.1.1.2.2,hk.1.2⟩⟩⟩⟩⟩)))⟩;have n1_:J0 (Kd.N k116 116 w21 w.heap.size (fun k_=>(w.heap.size≤k_)∧some k_≠(.slice Ao13 t104.length co13:Value).ownBlock∧some k_≠(.slice Ao20 t112.length co20:Value).ownBlock∧k_≠gb101∧k_≠g∧k_≠gb116) (.slice Ao19 t109.length co19) t109):=⟨(by rw[hw];exact(Kd.N_mono (rfN_ (Kd.N_mono O111.o (fun k_ hk=>(⟨hk,hk.2⟩:_∧k_≠gb116)))) (fun _ hk=>⟨hk.1.1.1,⟨hk.1.1.2.2.1,⟨hk.1.1.2.1,⟨hk.1.1.2.2.2.1,⟨hk.1.1.2.2.2.2,hk.1.2⟩⟩⟩⟩⟩)))⟩;have n2_:J0 (Kd.R k138 138 w21 w.heap.size (fun k_=>(w.heap.size≤k_)) (.slice Ao20 t112.length co20) t112):=⟨(by rw[hw];exact(Kd.R_mono (rfR_ (Kd.R_types O114.o Q116.o (by decide))) (fun _ hk=>hk.1.1)))⟩;have n3_:J0 (w21.heap[gb101]? =some (.cells #[.slice none 0 0, .slice none 0 0, .slice none 0 0] 32 (0,0))):=⟨(by rw[hw];exact(bw_ Q101 N101_116))⟩;have n4_:J0 (w21.heap[gb116]? =some (.cells #[.int .i64 t108, .slice Ao19 t109.length co19, .slice Ao20 t112.length co20] 60 (0,0))):=⟨(by rw[hw];exact(bp_ Q116))⟩;have n5_:J0 (IsS149 w0 w21 g s0_0 t107):=⟨(by rw[hw];exact(si2_ HI0 N0_101 N0_116))⟩;have n6_:J0 (KeepBut w w21 g none):=⟨(by rw[hw];exact(kp2_ HK GW101 GW116))⟩;have n7_:J0 (Below w0.heap.size w0 w21):=⟨(by rw[hw];exact(be3_ HB.o (IsS149.ge HI0.o) G101.o G116.o))⟩;clear hw O106 O111 O114 Q101 Q116 HI0 HK HB;have O106:=n0_;have O111:=n1_;have O114:=n2_;have Q101:=n3_;have Q116:=n4_;have HI0:=n5_;have HK:=n6_;have HB:=n7_;clear n0_ n1_ n2_ n3_ n4_ n5_ n6_ n7_;obtain⟨z22_0,z22_1,z22_2,y22_0,y22_1,y22_2⟩:=d3_ Q116)| ((with_reducible refine gate_callee (f:=31) rfl ?_);refine gl_ (some 25) rfl rfl Try.func31 #[.agg #[.int .i64 t108, .slice Ao19 t109.length co19, .slice Ao20 t112.length co20], .int .i64 60] ?_;(with_reducible refine(spec_BuildDfa.calls k t108 (fun k_=>((w.heap.size≤k_)∧(some k_≠(.slice Ao13 t104.length co13:Value).ownBlock∧(some k_≠(.slice Ao20 t112.length co20:Value).ownBlock∧(k_≠gb101∧(k_≠g∧k_≠gb116)))))) _ _ t109 _ _ t112 60 t117 t120 t123 true _ ?side1 ?side2 ?side3 A9.o).mono ?_);(case side1=>exact Kd.N_V (O111.o));(case side2=>exact ca_ (Kd.R_reads' O114.o).2.2);(case side3=>exact(Kd.R_reads' O114.o).2.1);rintro e w23 ⟨v118,v121,v124,rfl,ho0,ho1,ho2,hb⟩;refine⟨_,rfl,?_⟩;have O119:=q_ (Kd.R_lower (Kd.R_newM (M:=fun k_=>(w.heap.size≤k_)) (Kd.R_mono (ok':=fun k_=>some k_≠(v124:Value).ownBlock) ho0 (fun _ hk_=>hk_.2)) (ks2_ HK GW101 GW116) (fun k_ h_=>h_)) (ks2_ HK GW101 GW116));have O122:=q_ (Kd.N_lower (Kd.N_mono (ok':=fun k_=>(w.heap.size≤k_)∧some k_≠(v118:Value).ownBlock∧some k_≠(v124:Value).ownBlock∧some k_≠(.slice Ao13 t104.length co13:Value).ownBlock∧some k_≠(.slice Ao20 t112.length co20:Value).ownBlock∧k_≠gb101∧k_≠gb116∧k_≠g) ho1 (fun k_ hk_=>⟨Or.elim hk_.1 (fun hs_=>hs_.1) (fun hn_=>(Nat.le_trans (ks2_ HK GW101 GW116) hn_)),hk_.2.1,hk_.2.2,Or.elim hk_.1 (fun hs_=>hs_.2.1) (fun hn_=>(Kd.fresh' (Kd.N_lt (na_ O106.o)) k_ hn_)),Or.elim hk_.1 (fun hs_=>hs_.2.2.1) (fun hn_=>(Kd.fresh' (Kd.R_lt (ra_ O114.o)) k_ hn_)),Or.elim hk_.1 (fun hs_=>hs_.2.2.2.1) (fun hn_=>(fb_ Q101 hn_)),Or.elim hk_.1 (fun hs_=>hs_.2.2.2.2.2) (fun hn_=>(fb_ Q116 hn_)),Or.elim hk_.1 (fun hs_=>hs_.2.2.2.2.1) (fun hn_=>(IsS149.fresh (si2_ HI0 N0_101 N0_116) k_ hn_))⟩)) (ks2_ HK GW101 GW116));have O125:=q_ (Kd.R_lower (Kd.R_newM (M:=fun k_=>(w.heap.size≤k_)) (Kd.R_mono (ok':=fun k_=>some k_≠(v118:Value).ownBlock) ho2 (fun _ hk_=>hk_.2)) (ks2_ HK GW101 GW116) (fun k_ h_=>h_)) (ks2_ HK GW101 GW116));replace O106:=q_ (Kd.N_mono (Kd.N_told (Kd.N_told (Kd.N_told (Kd.N_old (na_ O106.o) hb) (Kd.R_base ho0)) (Kd.N_base ho1)) (Kd.R_base ho2)) (fun _ h_=>h_.1));replace O111:=q_ (Kd.N_mono (Kd.N_told (Kd.N_told (Kd.N_told (Kd.N_old (na_ O111.o) hb) (Kd.R_base ho0)) (Kd.N_base ho1)) (Kd.R_base ho2)) (fun _ h_=>h_.1));replace O114:=bR_ O114 hb;replace Q101:=lb_ Q101 hb;replace Q116:=lb_ Q116 hb;replace HK:=kb2_ HK GW101 GW116 hb;replace HB:=q_ (below_step (be3_ HB.o (IsS149.ge HI0.o) G101.o G116.o) hb);replace HI0:=ib2_ HI0 N0_101 N0_116 hb;clear hb ho0 ho1 ho2)| ((with_reducible refine gate_dst (N:=5) rfl ?_);refine bx_ 5 #[.slice none 0 0, .slice none 0 0, .slice none 0 0] 32 ?_;intro gb127 hg w24 hbox hb;have Q127:=q_ (hbox);have GW127:=gw2_ hg HK GW101 GW116;have G127:=q_ ((Nat.le_trans HW0.o (by rw[hg];exact(ks2_ HK GW101 GW116):w.heap.size≤gb127):w0.heap.size≤gb127));have N101_127:=nl_ hg Q101;have N127_101:=ng_ hg Q101;have N116_127:=nl_ hg Q116;have N127_116:=ng_ hg Q116;have N0_127:=nsl_ hg (show IsS149 w0 _ g s0_0 t107 from si2_ HI0 N0_101 N0_116);have N127_0:=nsg_ hg (show IsS149 w0 _ g s0_0 t107 from si2_ HI0 N0_101 N0_116);replace O106:=q_ (Kd.N_below (Kd.N_elderB (na_ O106.o) gb127 (Nat.le_of_eq hg.symm)) hb);replace O111:=q_ (Kd.N_below (Kd.N_elderB (na_ O111.o) gb127 (Nat.le_of_eq hg.symm)) hb);replace O114:=bR_ O114 hb;replace O119:=bR_ O119 hb;replace O122:=q_ (Kd.N_below (Kd.N_elderB (na_ O122.o) gb127 (Nat.le_of_eq hg.symm)) hb);replace O125:=bR_ O125 hb;replace Q101:=lb_ Q101 hb;replace Q116:=lb_ Q116 hb;replace HK:=kb2_ HK GW101 GW116 hb;replace HB:=q_ (below_step (be3_ HB.o (IsS149.ge HI0.o) G101.o G116.o) hb);replace HI0:=ib2_ HI0 N0_101 N0_116 hb;clear hb hbox hg;obtain⟨Ao25,co25,eo25⟩:=Kd.R_slice O119.o;subst eo25;have hnb26:=N127_101.o;have hnc26:=N101_127.o;have hnb27:=N127_116.o;have hnc27:=N116_127.o;have hnb28:=N127_0.o;have hnc28:=N0_127.o;obtain⟨z29_0,z29_1,z29_2,y29_0,y29_1,y29_2⟩:=d3_ Q127;obtain⟨Ao30,co30,eo30⟩:=Kd.N_slice O122.o;subst eo30;obtain⟨Ao31,co31,eo31⟩:=Kd.R_slice O125.o;subst eo31;have hnb32:=N101_0.o;have hnc32:=N0_101.o;obtain⟨z33_0,z33_1,z33_2,y33_0,y33_1,y33_2⟩:=d3_ Q101))
  refine bodyPost_ret (results_cell_row rfl _ _ gb101 32 #[.slice Ao25 t117.length co25, .slice Ao30 t120.length co30, .slice Ao31 t123.length co31] (0,0) _ rfl (by(with_reducible repeat(first|refine blk_drewN ?_ _|refine blk_drew ?_|refine blk_alloc ?_ _));refine blk_put (cs:=#[.slice Ao25 t117.length co25, .slice Ao30 t120.length co30, .slice none 0 0]) ?_ 2 _ rfl;(with_reducible repeat(first|refine blk_drewN ?_ _|refine blk_drew ?_|refine blk_alloc ?_ _));refine blk_put (cs:=#[.slice Ao25 t117.length co25, .slice none 0 0, .slice none 0 0]) ?_ 1 _ rfl;(with_reducible repeat(first|refine blk_drewN ?_ _|refine blk_drew ?_|refine blk_alloc ?_ _));refine blk_put (cs:=#[.slice none 0 0, .slice none 0 0, .slice none 0 0]) ?_ 0 _ rfl;(with_reducible repeat(first|refine blk_drewN ?_ _|refine blk_drew ?_|refine blk_alloc ?_ _));refine blk_far ?_ N101_127.o _;(with_reducible repeat(first|refine blk_drewN ?_ _|refine blk_drew ?_|refine blk_alloc ?_ _));refine blk_far ?_ N101_127.o _;(with_reducible repeat(first|refine blk_drewN ?_ _|refine blk_drew ?_|refine blk_alloc ?_ _));refine blk_far ?_ N101_127.o _;(with_reducible repeat(first|refine blk_drewN ?_ _|refine blk_drew ?_|refine blk_alloc ?_ _));exact Q101.o) Try.underlying32 rfl (by kernel_rfl)) rfl ?_;exact⟨_,_,_,rt_,by(with_reducible repeat(first|apply Kd.R_alloc|apply Kd.R_drewN|apply Kd.R_drew));exact Kd.R_mono (Kd.R_far (p:=⟨gb101,2,none⟩) (Kd.R_far (p:=⟨gb101,1,none⟩) (Kd.R_far (p:=⟨gb101,0,none⟩) (Kd.R_far (p:=⟨gb127,2,none⟩) (Kd.R_far (p:=⟨gb127,1,none⟩) (Kd.R_far (p:=⟨gb127,0,none⟩) (Kd.R_types (Kd.R_types O119.o Q127.o (by decide)) Q101.o (by decide)) (fun _ hk=>hk.1.2) (.slice Ao25 t117.length co25)) (fun _ hk=>hk.1.2) (.slice Ao30 t120.length co30)) (fun _ hk=>hk.1.2) (.slice Ao31 t123.length co31)) (fun _ hk=>hk.2) (.slice Ao25 t117.length co25)) (fun _ hk=>hk.2) (.slice Ao30 t120.length co30)) (fun _ hk=>hk.2) (.slice Ao31 t123.length co31)) (fun _ hk=>⟨hk.1.1.1,hk.1.1.2⟩),by(with_reducible repeat(first|apply Kd.N_alloc|apply Kd.N_drewN|apply Kd.N_drew));exact Kd.N_mono (Kd.N_far (p:=⟨gb101,2,none⟩) (Kd.N_far (p:=⟨gb101,1,none⟩) (Kd.N_far (p:=⟨gb101,0,none⟩) (Kd.N_far (p:=⟨gb127,2,none⟩) (Kd.N_far (p:=⟨gb127,1,none⟩) (Kd.N_far (p:=⟨gb127,0,none⟩) (Kd.N_mono (Kd.N_mono O122.o (fun k_ hk=>(⟨hk,hk.2⟩:_∧k_≠gb127))) (fun k_ hk=>(⟨hk,hk.1.1.2.2.2.2.2.1⟩:_∧k_≠gb101))) (fun _ hk=>hk.1.2) (.slice Ao25 t117.length co25)) (fun _ hk=>hk.1.2) (.slice Ao30 t120.length co30)) (fun _ hk=>hk.1.2) (.slice Ao31 t123.length co31)) (fun _ hk=>hk.2) (.slice Ao25 t117.length co25)) (fun _ hk=>hk.2) (.slice Ao30 t120.length co30)) (fun _ hk=>hk.2) (.slice Ao31 t123.length co31)) (fun _ hk=>⟨hk.1.1.1.1,⟨hk.1.1.1.2.1,hk.1.1.1.2.2.1⟩⟩),by(with_reducible repeat(first|apply Kd.R_alloc|apply Kd.R_drewN|apply Kd.R_drew));exact Kd.R_mono (Kd.R_far (p:=⟨gb101,2,none⟩) (Kd.R_far (p:=⟨gb101,1,none⟩) (Kd.R_far (p:=⟨gb101,0,none⟩) (Kd.R_far (p:=⟨gb127,2,none⟩) (Kd.R_far (p:=⟨gb127,1,none⟩) (Kd.R_far (p:=⟨gb127,0,none⟩) (Kd.R_types (Kd.R_types O125.o Q127.o (by decide)) Q101.o (by decide)) (fun _ hk=>hk.1.2) (.slice Ao25 t117.length co25)) (fun _ hk=>hk.1.2) (.slice Ao30 t120.length co30)) (fun _ hk=>hk.1.2) (.slice Ao31 t123.length co31)) (fun _ hk=>hk.2) (.slice Ao25 t117.length co25)) (fun _ hk=>hk.2) (.slice Ao30 t120.length co30)) (fun _ hk=>hk.2) (.slice Ao31 t123.length co31)) (fun _ hk=>⟨hk.1.1.1,hk.1.1.2⟩),si3_ HI0 N0_101 N0_116 N0_127,be4_ HB.o (IsS149.ge HI0.o) G101.o G116.o G127.o,kp3_ HK GW101 GW116 GW127⟩
 case rest=>
  clear HC3;obtain⟨kq,x1001_2,HA,HJ2,Q101,HI0,HK,HB⟩:=hcut;cases kq with
  |zero=>exact absurd HA.o (by simp[spec_l1Rd_dfa.j0])
  | succ kj2=>
   have H:=HA.o;clear HA;simp only[spec_l1Rd_dfa.j0]at H;replace H:=Option.bind_eq_some_iff.mp H;obtain⟨⟨t128,t129⟩,A740,H⟩:=H;dsimp only at H;have A74:=q_ A740;clear A740;have H':=q_ H;clear H
   go_wp2_with(first| ((with_reducible refine gate_callee (f:=66) rfl ?_);refine gl_ (some 34) rfl rfl Try.func66 #[.pointer (some ⟨g,0,none⟩), .int .i64 3] ?_;(with_reducible refine(spec_l1Rd_below.calls g s0_0 x1001_2 3 t128 t129 w0 _ ?side1 ?side2 A74.o).mono ?_);(case side1=>exact si1_ HI0 N0_101);(case side2=>exact be2_ HB.o (IsS149.ge HI0.o) G101.o);rintro e w75 ⟨rfl,hi,hb,hk⟩;refine⟨_,rfl,?_⟩;replace Q101:=kbk_ hk Q101 N101_0;replace HK:=kt1_ HK GW101 hk;replace HB:=q_ (hb);replace HI0:=q_ (hi);clear hb)| ((with_reducible refine gate_dst (N:=8) rfl ?_);refine bx_ 8 #[.slice none 0 0, .slice none 0 0, .slice none 0 0] 32 ?_;intro gb130 hg w76 hbox hb;have Q130:=q_ (hbox);have GW130:=gw1_ hg HK GW101;have G130:=q_ ((Nat.le_trans HW0.o (by rw[hg];exact(ks1_ HK GW101):w.heap.size≤gb130):w0.heap.size≤gb130));have N101_130:=nl_ hg Q101;have N130_101:=ng_ hg Q101;have N0_130:=nsl_ hg (show IsS149 w0 _ g s0_0 t129 from si1_ HI0 N0_101);have N130_0:=nsg_ hg (show IsS149 w0 _ g s0_0 t129 from si1_ HI0 N0_101);replace Q101:=lb_ Q101 hb;replace HK:=kb1_ HK GW101 hb;replace HB:=q_ (below_step (be2_ HB.o (IsS149.ge HI0.o) G101.o) hb);replace HI0:=ib1_ HI0 N0_101 hb;clear hb hbox hg;have hnb77:=N130_101.o;have hnc77:=N101_130.o;have hnb78:=N130_0.o;have hnc78:=N0_130.o;obtain⟨z79_0,z79_1,z79_2,y79_0,y79_1,y79_2⟩:=d3_ Q130))
   go_loopg [9] kj2 (fun kq v9 w'=>∃(x9_2:Int) (x131000_2:List Int) (u131000:Value),v9= .int .i64 x9_2∧J0 (spec_l1Rd_dfa.l0 kq (wrap64 (1+t128)) x9_2 s0_0 t129 x131000_2=some (r1,r2,r3,r4))∧J0 (kq≤kj2)∧J0 (Kd.R (Kd.int .i64) 2 w' w.heap.size (fun k_=>(w.heap.size≤k_)) u131000 x131000_2)∧J0 (w'.heap[gb101]? =some (.cells #[(.slice none 0 0),(.slice none 0 0),(.slice none 0 0)] 32 (0,0)))∧J0 (w'.heap[gb130]? =some (.cells #[u131000,(.slice none 0 0),(.slice none 0 0)] 32 (0,0)))∧J0 (IsS149 w0 w' g s0_0 t129)∧J0 (KeepBut w w' g none)∧J0 (Below w0.heap.size w0 w'))
   case atStart=>exact⟨(0),(([]:List Int)),(.slice none 0 0),rs_,H',⟨Nat.le_refl _⟩,⟨by exact Kd.R_nil _ _ _ _ _⟩,⟨by(with_reducible repeat(first|refine blk_drewN ?_ _|refine blk_drew ?_|refine blk_alloc ?_ _));refine blk_far ?_ N101_130.o _;(with_reducible repeat(first|refine blk_drewN ?_ _|refine blk_drew ?_|refine blk_alloc ?_ _));refine blk_far ?_ N101_130.o _;(with_reducible repeat(first|refine blk_drewN ?_ _|refine blk_drew ?_|refine blk_alloc ?_ _));refine blk_far ?_ N101_130.o _;(with_reducible repeat(first|refine blk_drewN ?_ _|refine blk_drew ?_|refine blk_alloc ?_ _));exact Q101.o⟩,⟨by(with_reducible repeat(first|refine blk_drewN ?_ _|refine blk_drew ?_|refine blk_alloc ?_ _));refine blk_put (cs:=#[.slice none 0 0, .slice none 0 0, .slice none 0 0]) ?_ 2 _ rfl;(with_reducible repeat(first|refine blk_drewN ?_ _|refine blk_drew ?_|refine blk_alloc ?_ _));refine blk_put (cs:=#[.slice none 0 0, .slice none 0 0, .slice none 0 0]) ?_ 1 _ rfl;(with_reducible repeat(first|refine blk_drewN ?_ _|refine blk_drew ?_|refine blk_alloc ?_ _));refine blk_put (cs:=#[.slice none 0 0, .slice none 0 0, .slice none 0 0]) ?_ 0 _ rfl;(with_reducible repeat(first|refine blk_drewN ?_ _|refine blk_drew ?_|refine blk_alloc ?_ _));exact Q130.o⟩,⟨si2_ HI0 N0_101 N0_130⟩,⟨kp2_ HK GW101 GW130⟩,⟨be3_ HB.o (IsS149.ge HI0.o) G101.o G130.o⟩⟩
   case round=>
    clear H';clear z79_0 z79_1 z79_2 y79_0 y79_1 y79_2;obtain⟨x9_2,x131000_2,u131000,rfl,HA,HK2,O_131000,Q101,Q130,HI0,HK,HB⟩:=hrel;cases gk with
    |zero=>exact absurd HA.o (by simp[spec_l1Rd_dfa.l0])
    | succ k2=>
     have H:=HA.o;clear HA;simp only[spec_l1Rd_dfa.l0]at H;by_cases c80:x9_2<256
     ·rw[iP c80]at H;have d80:=dt_ c80;clear c80;have hnb84:=N130_101.o;have hnc84:=N101_130.o;have hnb85:=N130_0.o;have hnc85:=N0_130.o;obtain⟨z86_0,z86_1,z86_2,y86_0,y86_1,y86_2⟩:=d3_ Q130;by_cases c81:x9_2≥97;rotate_left
      ·rw[iN c81]at H;have d81:decide (97≤x9_2)=false:=df_ c81;clear c81;obtain⟨c97,H⟩:=ip_ H;have LMc97:=q_ c97;clear c97;generalize hy137:(x131000_2++ [0]:List Int)=y137 at H;have Ny137:=q_ hy137.symm;clear hy137;have H':=q_ H;clear H
       go_wp2_with(((with_reducible refine gate_builtin (b:= .append) (xs:=#[.tmp 53, .tmp 55]) rfl ?_);at_builtin;refine Kd.R_append (Kd.int .i64) w.heap.size rfl (.tmp 53) (.tmp 55) 22 2 (.int .i64 0) 8 rfl Try.underlying22 info2 rfl (by decide) (by omega) u131000 x131000_2 0 [.int .i64 0] (fun k_=>(w.heap.size≤k_)) (fun _=>False) rfl rfl ?aP (fun _ hk=>hk.elim) ?aF ?aO (Below.refl _ _) ?aS ?aL ?_;(case aP=>exact rfl);(case aF=>exact(fun k_ hk=>(Nat.le_trans (ks2_ HK GW101 GW130) hk)));(case aO=>exact(ra_ O_131000.o));(case aS=>exact(ks2_ HK GW101 GW130));(case aL=>have:=LMc97.o;omega);intro v138 w101 ho hb hg hat;rw[←Ny137.o]at ho;have O139:=q_ (ho);replace Q101:=bg_ Q101 hg (Kd.R_ne O_131000.o Q101.o (by decide));replace Q130:=bg_ Q130 hg (Kd.R_ne O_131000.o Q130.o (by decide));replace HB:=q_ (below_weaken (be3_ HB.o (IsS149.ge HI0.o) G101.o G130.o) HL.o hb);replace HI0:=q_ (IsS149.grown (si2_ HI0 N0_101 N0_130) hg (IsS149.own_ne HI0.o O_131000.o (by decide)));replace HK:=q_ (KeepBut.trans (kp2_ HK GW101 GW130) (KeepBut.of_grown hg g) (Kd.R_base2 O_131000.o));clear O_131000 ho hb hg hat;obtain⟨Ao102,co102,eo102⟩:=Kd.R_slice O139.o;subst eo102;obtain⟨z103_0,z103_1,z103_2,y103_0,y103_1,y103_2⟩:=d3_ Q130))
       go_roundg k2
       case measure=>have:=HJ2.o;have:=HK2.o;omega
       case rel=>exact⟨(wrap64 (x9_2+1)),(y137),(.slice Ao102 y137.length co102),rs_,H',⟨by have:=HJ2.o;have:=HK2.o;omega⟩,⟨Kd.R_mono (rfR_ (Kd.R_types O139.o Q130.o (by decide))) (fun _ hk=>hk.1)⟩,⟨by(with_reducible repeat(first|refine blk_drewN ?_ _|refine blk_drew ?_|refine blk_alloc ?_ _));refine blk_far ?_ N101_130.o _;(with_reducible repeat(first|refine blk_drewN ?_ _|refine blk_drew ?_|refine blk_alloc ?_ _));exact Q101.o⟩,⟨by(with_reducible repeat(first|refine blk_drewN ?_ _|refine blk_drew ?_|refine blk_alloc ?_ _));refine blk_put (cs:=#[u131000, .slice none 0 0, .slice none 0 0]) ?_ 0 _ rfl;(with_reducible repeat(first|refine blk_drewN ?_ _|refine blk_drew ?_|refine blk_alloc ?_ _));exact Q130.o⟩,⟨si2_ HI0 N0_101 N0_130⟩,⟨kp2_ HK GW101 GW130⟩,⟨be3_ HB.o (IsS149.ge HI0.o) G101.o G130.o⟩⟩
      rw[iP c81]at H;have d81:decide (97≤x9_2)=true:=dt_ c81;clear c81;by_cases c82:x9_2<(wrap64 ((wrap64 (97+(wrap64 (1+t128))))-1));rotate_left
      ·rw[iN c82]at H;have d82:=df_ c82;clear c82;obtain⟨c90,H⟩:=ip_ H;have LMc90:=q_ c90;clear c90;generalize hy134:(x131000_2++ [0]:List Int)=y134 at H;have Ny134:=q_ hy134.symm;clear hy134;have H':=q_ H;clear H
       go_wp2_with(((with_reducible refine gate_builtin (b:= .append) (xs:=#[.tmp 53, .tmp 55]) rfl ?_);at_builtin;refine Kd.R_append (Kd.int .i64) w.heap.size rfl (.tmp 53) (.tmp 55) 22 2 (.int .i64 0) 8 rfl Try.underlying22 info2 rfl (by decide) (by omega) u131000 x131000_2 0 [.int .i64 0] (fun k_=>(w.heap.size≤k_)) (fun _=>False) rfl rfl ?aP (fun _ hk=>hk.elim) ?aF ?aO (Below.refl _ _) ?aS ?aL ?_;(case aP=>exact rfl);(case aF=>exact(fun k_ hk=>(Nat.le_trans (ks2_ HK GW101 GW130) hk)));(case aO=>exact(ra_ O_131000.o));(case aS=>exact(ks2_ HK GW101 GW130));(case aL=>have:=LMc90.o;omega);intro v135 w94 ho hb hg hat;rw[←Ny134.o]at ho;have O136:=q_ (ho);replace Q101:=bg_ Q101 hg (Kd.R_ne O_131000.o Q101.o (by decide));replace Q130:=bg_ Q130 hg (Kd.R_ne O_131000.o Q130.o (by decide));replace HB:=q_ (below_weaken (be3_ HB.o (IsS149.ge HI0.o) G101.o G130.o) HL.o hb);replace HI0:=q_ (IsS149.grown (si2_ HI0 N0_101 N0_130) hg (IsS149.own_ne HI0.o O_131000.o (by decide)));replace HK:=q_ (KeepBut.trans (kp2_ HK GW101 GW130) (KeepBut.of_grown hg g) (Kd.R_base2 O_131000.o));clear O_131000 ho hb hg hat;obtain⟨Ao95,co95,eo95⟩:=Kd.R_slice O136.o;subst eo95;obtain⟨z96_0,z96_1,z96_2,y96_0,y96_1,y96_2⟩:=d3_ Q130))
       go_roundg k2
       case measure=>have:=HJ2.o;have:=HK2.o;omega
       case rel=>exact⟨(wrap64 (x9_2+1)),(y134),(.slice Ao95 y134.length co95),rs_,H',⟨by have:=HJ2.o;have:=HK2.o;omega⟩,⟨Kd.R_mono (rfR_ (Kd.R_types O136.o Q130.o (by decide))) (fun _ hk=>hk.1)⟩,⟨by(with_reducible repeat(first|refine blk_drewN ?_ _|refine blk_drew ?_|refine blk_alloc ?_ _));refine blk_far ?_ N101_130.o _;(with_reducible repeat(first|refine blk_drewN ?_ _|refine blk_drew ?_|refine blk_alloc ?_ _));exact Q101.o⟩,⟨by(with_reducible repeat(first|refine blk_drewN ?_ _|refine blk_drew ?_|refine blk_alloc ?_ _));refine blk_put (cs:=#[u131000, .slice none 0 0, .slice none 0 0]) ?_ 0 _ rfl;(with_reducible repeat(first|refine blk_drewN ?_ _|refine blk_drew ?_|refine blk_alloc ?_ _));exact Q130.o⟩,⟨si2_ HI0 N0_101 N0_130⟩,⟨kp2_ HK GW101 GW130⟩,⟨be3_ HB.o (IsS149.ge HI0.o) G101.o G130.o⟩⟩
      rw[iP c82]at H;have d82:=dt_ c82;clear c82;obtain⟨c83,H⟩:=ip_ H;have LMc83:=q_ c83;clear c83;generalize hy131:(x131000_2++ [wrap64 (x9_2-96)]:List Int)=y131 at H;have Ny131:=q_ hy131.symm;clear hy131;have H':=q_ H;clear H
      go_wp2_with(((with_reducible refine gate_builtin (b:= .append) (xs:=#[.tmp 53, .tmp 55]) rfl ?_);at_builtin;refine Kd.R_append (Kd.int .i64) w.heap.size rfl (.tmp 53) (.tmp 55) 22 2 (.int .i64 0) 8 rfl Try.underlying22 info2 rfl (by decide) (by omega) u131000 x131000_2 (wrap64 (x9_2-96)) [.int .i64 (wrap64 (x9_2-96))] (fun k_=>(w.heap.size≤k_)) (fun _=>False) rfl rfl ?aP (fun _ hk=>hk.elim) ?aF ?aO (Below.refl _ _) ?aS ?aL ?_;(case aP=>exact rfl);(case aF=>exact(fun k_ hk=>(Nat.le_trans (ks2_ HK GW101 GW130) hk)));(case aO=>exact(ra_ O_131000.o));(case aS=>exact(ks2_ HK GW101 GW130));(case aL=>have:=LMc83.o;omega);intro v132 w87 ho hb hg hat;rw[←Ny131.o]at ho;have O133:=q_ (ho);replace Q101:=bg_ Q101 hg (Kd.R_ne O_131000.o Q101.o (by decide));replace Q130:=bg_ Q130 hg (Kd.R_ne O_131000.o Q130.o (by decide));replace HB:=q_ (below_weaken (be3_ HB.o (IsS149.ge HI0.o) G101.o G130.o) HL.o hb);replace HI0:=q_ (IsS149.grown (si2_ HI0 N0_101 N0_130) hg (IsS149.own_ne HI0.o O_131000.o (by decide)));replace HK:=q_ (KeepBut.trans (kp2_ HK GW101 GW130) (KeepBut.of_grown hg g) (Kd.R_base2 O_131000.o));clear O_131000 ho hb hg hat;obtain⟨Ao88,co88,eo88⟩:=Kd.R_slice O133.o;subst eo88;obtain⟨z89_0,z89_1,z89_2,y89_0,y89_1,y89_2⟩:=d3_ Q130))
      go_roundg k2
      case measure=>have:=HJ2.o;have:=HK2.o;omega
      case rel=>exact⟨(wrap64 (x9_2+1)),(y131),(.slice Ao88 y131.length co88),rs_,H',⟨by have:=HJ2.o;have:=HK2.o;omega⟩,⟨Kd.R_mono (rfR_ (Kd.R_types O133.o Q130.o (by decide))) (fun _ hk=>hk.1)⟩,⟨by(with_reducible repeat(first|refine blk_drewN ?_ _|refine blk_drew ?_|refine blk_alloc ?_ _));refine blk_far ?_ N101_130.o _;(with_reducible repeat(first|refine blk_drewN ?_ _|refine blk_drew ?_|refine blk_alloc ?_ _));exact Q101.o⟩,⟨by(with_reducible repeat(first|refine blk_drewN ?_ _|refine blk_drew ?_|refine blk_alloc ?_ _));refine blk_put (cs:=#[u131000, .slice none 0 0, .slice none 0 0]) ?_ 0 _ rfl;(with_reducible repeat(first|refine blk_drewN ?_ _|refine blk_drew ?_|refine blk_alloc ?_ _));exact Q130.o⟩,⟨si2_ HI0 N0_101 N0_130⟩,⟨kp2_ HK GW101 GW130⟩,⟨be3_ HB.o (IsS149.ge HI0.o) G101.o G130.o⟩⟩
     rw[iN c80]at H;have d80:=df_ c80;clear c80;obtain⟨ji104,hji104⟩:∃j_:Int,(mn 7 (wrap64 (1+(wrap64 ((s0_0.length:Int) / 5)))))=j_:=⟨_,rfl⟩;replace H:((spec_l1Rd_below.f s0_0 t129 (ji104)).bind fun bt140=>(spec_l1Rd_dfa.l1 k2 (wrap64 (1+t128)) (wrap64 (1+bt140.1)) 0 s0_0 bt140.2 x131000_2 ([]:List (List Int)) ([]:List Int)))=some (r1,r2,r3,r4):=by(rw[hji104]at H;exact H)
     have hji104_:(if(wrap64 (1+(wrap64 ((s0_0.length:Int) / 5))))<7 then(wrap64 (1+(wrap64 ((s0_0.length:Int) / 5))))else 7)=ji104:=hji104;replace H:=Option.bind_eq_some_iff.mp H;obtain⟨⟨t140,t141⟩,A1050,H⟩:=H;dsimp only at H;have A105:=q_ A1050;clear A1050;have H':=q_ H;clear H;obtain⟨ASz106_0,cSz106_0,HGz106,hgz106,HSz106_0⟩:=HI0.o;have z106_0:=cellS149_0 HGz106;have z106_1:=cellS149_1 HGz106;have y106_1:=blk_frozen HGz106 1;clear HGz106 hgz106
     go_wp2_with(((with_reducible refine gate_callee (f:=66) rfl ?_);refine goesL_ (some 67) rfl rfl Try.func66 (by kernel_rfl) rfl #[.pointer (some ⟨g,0,none⟩), .int .i64 ji104] rfl (by(try simp only[List.map_toArray,List.map_cons,List.map_nil]);first|done| (simp only[hji104];rfl)|rfl| (simp only[List.length_drop,List.length_take];rfl)) ?_;(with_reducible refine(spec_l1Rd_below.calls g s0_0 t129 ji104 t140 t141 w0 _ ?side1 ?side2 A105.o).mono ?_);(case side1=>exact si2_ HI0 N0_101 N0_130);(case side2=>exact be3_ HB.o (IsS149.ge HI0.o) G101.o G130.o);rintro e w107 ⟨rfl,hi,hb,hk⟩;refine⟨_,rfl,?_⟩;replace O_131000:=q_ (Kd.R_mono (Kd.R_keep (IsS149.apart (show IsS149 w0 _ g s0_0 t129 from si2_ HI0 N0_101 N0_130) (ra_ O_131000.o) (by decide)) hk (fun _ h=>h.2)) (fun _ h=>h.1));replace Q101:=kbk_ hk Q101 N101_0;replace Q130:=kbk_ hk Q130 N130_0;replace HK:=kt2_ HK GW101 GW130 hk;replace HB:=q_ (hb);replace HI0:=q_ (hi);clear hb))
     go_loopg [12] k2 (fun kq v12 w'=>∃(x12_3:Int) (x1001_3:Int) (x131001_3:List (List Int)) (x131002_3:List Int) (u131001:Value) (u131002:Value),v12= .int .i64 x12_3∧J0 (spec_l1Rd_dfa.l1 kq (wrap64 (1+t128)) (wrap64 (1+t140)) x12_3 s0_0 x1001_3 x131000_2 x131001_3 x131002_3=some (r1,r2,r3,r4))∧J0 (kq≤k2)∧J0 (Kd.R (Kd.int .i64) 2 w' w.heap.size (fun k_=>(w.heap.size≤k_)∧some k_≠(u131002:Value).ownBlock) u131000 x131000_2)∧J0 (Kd.N (Kd.slice 2 (Kd.int .i64)) 22 w' w.heap.size (fun k_=>(w.heap.size≤k_)∧some k_≠(u131000:Value).ownBlock∧some k_≠(u131002:Value).ownBlock∧k_≠gb101∧k_≠gb130∧k_≠g) u131001 x131001_3)∧J0 (Kd.R (Kd.int .i64) 2 w' w.heap.size (fun k_=>(w.heap.size≤k_)∧some k_≠(u131000:Value).ownBlock) u131002 x131002_3)∧J0 (w'.heap[gb101]? =some (.cells #[(.slice none 0 0),(.slice none 0 0),(.slice none 0 0)] 32 (0,0)))∧J0 (w'.heap[gb130]? =some (.cells #[u131000,u131001,u131002] 32 (0,0)))∧J0 (IsS149 w0 w' g s0_0 x1001_3)∧J0 (KeepBut w w' g none)∧J0 (Below w0.heap.size w0 w'))
     case atStart=>exact⟨(0),(t141),(([]:List (List Int))),(([]:List Int)),(.slice none 0 0),(.slice none 0 0),rs_,H',⟨Nat.le_refl _⟩,⟨mR_ O_131000 (fun _ hk=>⟨hk,(by simp[Value.ownBlock])⟩)⟩,⟨by exact Kd.N_nil _ _ _ _ _⟩,⟨by exact Kd.R_nil _ _ _ _ _⟩,⟨bk_ Q101.o⟩,⟨bk_ Q130.o⟩,⟨si2_ HI0 N0_101 N0_130⟩,⟨kp2_ HK GW101 GW130⟩,⟨be3_ HB.o (IsS149.ge HI0.o) G101.o G130.o⟩⟩
     case round=>
      clear H';clear d80 z106_0 z106_1 y106_1;obtain⟨x12_3,x1001_3,x131001_3,x131002_3,u131001,u131002,rfl,HA,HK3,O_131000,O_131001,O_131002,Q101,Q130,HI0,HK,HB⟩:=hrel;cases gk with
      |zero=>exact absurd HA.o (by simp[spec_l1Rd_dfa.l1])
      | succ k3=>
       have H:=HA.o;clear HA;simp only[spec_l1Rd_dfa.l1]at H;by_cases c108:x12_3<(wrap64 (1+t140));rotate_left
       ·rw[iN c108]at H;have d108:=df_ c108;clear c108;simp only[Option.some.injEq,Prod.mk.injEq]at H;obtain⟨rfl,rfl,rfl,rfl⟩:=H;have hnb132:=N130_101.o;have hnc132:=N101_130.o;have hnb133:=N130_0.o;have hnc133:=N0_130.o;obtain⟨z134_0,z134_1,z134_2,y134_0,y134_1,y134_2⟩:=d3_ Q130;obtain⟨Ao135,co135,eo135⟩:=Kd.R_slice O_131000.o;subst eo135;have hnb136:=N101_0.o;have hnc136:=N0_101.o;obtain⟨z137_0,z137_1,z137_2,y137_0,y137_1,y137_2⟩:=d3_ Q101;obtain⟨Ao138,co138,eo138⟩:=Kd.N_slice O_131001.o;subst eo138;obtain⟨Ao139,co139,eo139⟩:=Kd.R_slice O_131002.o;subst eo139;go_wp2
        refine bodyPost_ret (results_cell_row rfl _ _ gb101 32 #[.slice Ao135 x131000_2.length co135, .slice Ao138 x131001_3.length co138, .slice Ao139 x131002_3.length co139] (0,0) _ rfl (bp_ Q101) Try.underlying32 rfl (by kernel_rfl)) rfl ?_;exact⟨_,_,_,by rfl,by(with_reducible repeat(first|apply Kd.R_alloc|apply Kd.R_drewN|apply Kd.R_drew));exact Kd.R_mono (rfR_ (Kd.R_types O_131000.o Q101.o (by decide))) (fun _ hk=>⟨hk.1.1,hk.1.2⟩),by(with_reducible repeat(first|apply Kd.N_alloc|apply Kd.N_drewN|apply Kd.N_drew));exact Kd.N_mono (rfN_ (Kd.N_mono O_131001.o (fun k_ hk=>(⟨hk,hk.2.2.2.1⟩:_∧k_≠gb101)))) (fun _ hk=>⟨hk.1.1,⟨hk.1.2.1,hk.1.2.2.1⟩⟩),by(with_reducible repeat(first|apply Kd.R_alloc|apply Kd.R_drewN|apply Kd.R_drew));exact Kd.R_mono (rfR_ (Kd.R_types O_131002.o Q101.o (by decide))) (fun _ hk=>⟨hk.1.1,hk.1.2⟩),si2_ HI0 N0_101 N0_130,be3_ HB.o (IsS149.ge HI0.o) G101.o G130.o,kp2_ HK GW101 GW130⟩
       rw[iP c108]at H;have d108:=dt_ c108;clear c108;generalize hy142:([]:List Int)=y142 at H;have Ny142:=q_ hy142.symm;clear hy142;have H':=q_ H;clear H
       go_wp2_with(((with_reducible refine gate_dst (N:=74) rfl ?_);refine Kd.R_lit (Kd.int .i64) _ 2 ?hg (N:=74) ?hd (xs:=([]:List Int)) (inner:=[]) (ok:=fun _=>True) (okp:=fun _=>True) ?hr ?hp (fun _ hk=>hk) trivial (Below.refl _ _) (Nat.le_refl _) (by simp) ?_;(case hd=>rfl);(case hg=>rfl);(case hr=>first| (go_simp;done)| (go_simp;rfl));(case hp=>exact(Reps.none _ _));intro v143 w109 ho110 hb hg_ hnew_;clear hg_ hnew_;(rw[←Ny142.o]at ho110);have O144:=q_ (Kd.R_lower (Kd.R_new' (Kd.R_new' (Kd.R_newM (M:=fun k_=>(w.heap.size≤k_)) ho110 (ks2_ HK GW101 GW130) (fun k_ h_=>h_)) (Kd.R_lt (ra_ O_131000.o))) (Kd.R_lt (ra_ O_131002.o))) (ks2_ HK GW101 GW130));replace O_131000:=eR_ O_131000 (Kd.R_base ho110) hb;replace O_131001:=eN_ O_131001 (Kd.R_base ho110) hb;replace O_131002:=eR_ O_131002 (Kd.R_base ho110) hb;replace Q101:=lb_ Q101 hb;replace Q130:=lb_ Q130 hb;replace HK:=kb2_ HK GW101 GW130 hb;replace HB:=q_ (below_step (be3_ HB.o (IsS149.ge HI0.o) G101.o G130.o) hb);replace HI0:=ib2_ HI0 N0_101 N0_130 hb;clear hb ho110))
       go_loopg [13,14] k3 (fun kq v13 v14 w'=>∃(x13_4:List Int) (x14_4:Int) (x1001_4:Int),v14= .int .i64 x14_4∧J0 (spec_l1Rd_dfa.l2 kq (wrap64 (1+t128)) (wrap64 (1+t140)) x12_3 x13_4 x14_4 s0_0 x1001_4 x131000_2 x131001_3 x131002_3=some (r1,r2,r3,r4))∧J0 (kq≤k3)∧J0 (Kd.R (Kd.int .i64) 2 w' w.heap.size (fun k_=>(w.heap.size≤k_)∧some k_≠(u131000:Value).ownBlock∧some k_≠(u131002:Value).ownBlock) v13 x13_4)∧J0 (Kd.R (Kd.int .i64) 2 w' w.heap.size (fun k_=>(w.heap.size≤k_)∧some k_≠(v13:Value).ownBlock∧some k_≠(u131002:Value).ownBlock) u131000 x131000_2)∧J0 (Kd.N (Kd.slice 2 (Kd.int .i64)) 22 w' w.heap.size (fun k_=>(w.heap.size≤k_)∧some k_≠(v13:Value).ownBlock∧some k_≠(u131000:Value).ownBlock∧some k_≠(u131002:Value).ownBlock∧k_≠gb101∧k_≠gb130∧k_≠g) u131001 x131001_3)∧J0 (Kd.R (Kd.int .i64) 2 w' w.heap.size (fun k_=>(w.heap.size≤k_)∧some k_≠(v13:Value).ownBlock∧some k_≠(u131000:Value).ownBlock) u131002 x131002_3)∧J0 (w'.heap[gb101]? =some (.cells #[(.slice none 0 0),(.slice none 0 0),(.slice none 0 0)] 32 (0,0)))∧J0 (w'.heap[gb130]? =some (.cells #[u131000,u131001,u131002] 32 (0,0)))∧J0 (IsS149 w0 w' g s0_0 x1001_4)∧J0 (KeepBut w w' g none)∧J0 (Below w0.heap.size w0 w'))
       case atStart=>exact⟨(y142),(0),(x1001_3),rs_,H',⟨Nat.le_refl _⟩,⟨mR_ O144 (fun _ hk=>⟨hk.1.1.1,⟨hk.1.2,hk.2⟩⟩)⟩,⟨mR_ O_131000 (fun _ hk=>⟨hk.1.1,⟨hk.2,hk.1.2⟩⟩)⟩,⟨mN_ O_131001 (fun _ hk=>⟨hk.1.1,⟨hk.2,⟨hk.1.2.1,⟨hk.1.2.2.1,⟨hk.1.2.2.2.1,⟨hk.1.2.2.2.2.1,hk.1.2.2.2.2.2⟩⟩⟩⟩⟩⟩)⟩,⟨mR_ O_131002 (fun _ hk=>⟨hk.1.1,⟨hk.2,hk.1.2⟩⟩)⟩,⟨bk_ Q101.o⟩,⟨bk_ Q130.o⟩,⟨si2_ HI0 N0_101 N0_130⟩,⟨kp2_ HK GW101 GW130⟩,⟨be3_ HB.o (IsS149.ge HI0.o) G101.o G130.o⟩⟩
       case round=>
        clear H';clear d108;obtain⟨x13_4,x14_4,x1001_4,rfl,HA,HK4,O_13,O_131000,O_131001,O_131002,Q101,Q130,HI0,HK,HB⟩:=hrel;cases gk with
        |zero=>exact absurd HA.o (by simp[spec_l1Rd_dfa.l2])
        | succ k4=>
         have H:=HA.o;clear HA;simp only[spec_l1Rd_dfa.l2]at H;by_cases c111:x14_4<(wrap64 (1+t128))
         ·rw[iP c111]at H;have d111:=dt_ c111;clear c111;replace H:=Option.bind_eq_some_iff.mp H;obtain⟨⟨t145,t146⟩,A1120,H⟩:=H;dsimp only at H;have A112:=q_ A1120;clear A1120;obtain⟨c113,H⟩:=ip_ H;have LMc113:=q_ c113;clear c113;generalize hy147:(x13_4++ [t145]:List Int)=y147 at H;have Ny147:=q_ hy147.symm;clear hy147;have H':=q_ H;clear H
          go_wp2_with(first| ((with_reducible refine gate_callee (f:=66) rfl ?_);refine gl_ (some 83) rfl rfl Try.func66 #[.pointer (some ⟨g,0,none⟩), .int .i64 (wrap64 (1+t140))] ?_;(with_reducible refine(spec_l1Rd_below.calls g s0_0 x1001_4 (wrap64 (1+t140)) t145 t146 w0 _ ?side1 ?side2 A112.o).mono ?_);(case side1=>exact si2_ HI0 N0_101 N0_130);(case side2=>exact be3_ HB.o (IsS149.ge HI0.o) G101.o G130.o);rintro e w114 ⟨rfl,hi,hb,hk⟩;refine⟨_,rfl,?_⟩;replace O_13:=q_ (Kd.R_mono (Kd.R_keep (IsS149.apart (show IsS149 w0 _ g s0_0 x1001_4 from si2_ HI0 N0_101 N0_130) (ra_ O_13.o) (by decide)) hk (fun _ h=>h.2)) (fun _ h=>h.1));replace O_131000:=q_ (Kd.R_mono (Kd.R_keep (IsS149.apart (show IsS149 w0 _ g s0_0 x1001_4 from si2_ HI0 N0_101 N0_130) (ra_ O_131000.o) (by decide)) hk (fun _ h=>h.2)) (fun _ h=>h.1));replace O_131001:=q_ (Kd.N_mono (Kd.N_keep (Kd.N_mono (ok:=fun k_=>(((w.heap.size≤k_))∧(some k_≠(u13:Value).ownBlock∧(some k_≠(u131000:Value).ownBlock∧(some k_≠(u131002:Value).ownBlock∧(k_≠gb101∧(k_≠gb130∧k_≠g))))))) (na_ O_131001.o) (fun k_ hk_=>(⟨hk_,hk_.2.2.2.2.2.2⟩:_∧k_≠g))) hk (fun _ h=>h.2)) (fun _ h=>h.1));replace O_131002:=q_ (Kd.R_mono (Kd.R_keep (IsS149.apart (show IsS149 w0 _ g s0_0 x1001_4 from si2_ HI0 N0_101 N0_130) (ra_ O_131002.o) (by decide)) hk (fun _ h=>h.2)) (fun _ h=>h.1));replace Q101:=kbk_ hk Q101 N101_0;replace Q130:=kbk_ hk Q130 N130_0;replace HK:=kt2_ HK GW101 GW130 hk;replace HB:=q_ (hb);replace HI0:=q_ (hi);clear hb)| ((with_reducible refine gate_builtin (b:= .append) (xs:=#[.tmp 80, .tmp 84]) rfl ?_);at_builtin;refine Kd.R_append (Kd.int .i64) w.heap.size rfl (.tmp 80) (.tmp 84) 22 2 (.int .i64 0) 8 rfl Try.underlying22 info2 rfl (by decide) (by omega) u13 x13_4 t145 [.int .i64 t145] (fun k_=>(w.heap.size≤k_)∧some k_≠(u131000:Value).ownBlock∧some k_≠(u131002:Value).ownBlock) (fun _=>False) rfl rfl ?aP (fun _ hk=>hk.elim) ?aF ?aO (Below.refl _ _) ?aS ?aL ?_;(case aP=>exact rfl);(case aF=>exact(fun k_ hk=>⟨(Nat.le_trans (ks2_ HK GW101 GW130) hk),Kd.fresh' (Kd.R_lt (ra_ O_131000.o)) k_ hk,Kd.fresh' (Kd.R_lt (ra_ O_131002.o)) k_ hk⟩));(case aO=>exact(ra_ O_13.o));(case aS=>exact(ks2_ HK GW101 GW130));(case aL=>have:=LMc113.o;omega);intro v148 w115 ho hb hg hat;rw[←Ny147.o]at ho;have O149:=q_ (ho);replace O_131000:=q_ (Kd.R_after (ok:=(fun k_=>(w.heap.size≤k_)∧some k_≠(u131002:Value).ownBlock)) (mR_ O_131000 (fun _ hk=>⟨⟨hk.1,hk.2.2⟩,hk.2.1⟩)) hg hat);replace O_131001:=q_ (Kd.N_afterv (ok:=(fun k_=>(w.heap.size≤k_)∧some k_≠(u131000:Value).ownBlock∧some k_≠(u131002:Value).ownBlock∧k_≠gb101∧k_≠gb130∧k_≠g)) (mN_ O_131001 (fun _ hk=>⟨⟨hk.1,⟨hk.2.2.1,⟨hk.2.2.2.1,⟨hk.2.2.2.2.1,⟨hk.2.2.2.2.2.1,hk.2.2.2.2.2.2⟩⟩⟩⟩⟩,hk.2.1⟩)) hg hat);replace O_131002:=q_ (Kd.R_after (ok:=(fun k_=>(w.heap.size≤k_)∧some k_≠(u131000:Value).ownBlock)) (mR_ O_131002 (fun _ hk=>⟨⟨hk.1,hk.2.2⟩,hk.2.1⟩)) hg hat);replace Q101:=bg_ Q101 hg (Kd.R_ne O_13.o Q101.o (by decide));replace Q130:=bg_ Q130 hg (Kd.R_ne O_13.o Q130.o (by decide));replace HB:=q_ (below_weaken (be3_ HB.o (IsS149.ge HI0.o) G101.o G130.o) HL.o hb);replace HI0:=q_ (IsS149.grown (si2_ HI0 N0_101 N0_130) hg (IsS149.own_ne HI0.o O_13.o (by decide)));replace HK:=q_ (KeepBut.trans (kp2_ HK GW101 GW130) (KeepBut.of_grown hg g) (Kd.R_base2 O_13.o));clear O_13 ho hb hg hat))
          go_roundg k4
          case measure=>have:=HJ2.o;have:=HK2.o;have:=HK3.o;have:=HK4.o;omega
          case rel=>exact⟨(y147),(wrap64 (x14_4+1)),(t146),rs_,H',⟨by have:=HJ2.o;have:=HK2.o;have:=HK3.o;have:=HK4.o;omega⟩,⟨ra_ O149.o⟩,⟨mR_ O_131000 (fun _ hk=>⟨hk.1.1,⟨hk.2,hk.1.2⟩⟩)⟩,⟨mN_ O_131001 (fun _ hk=>⟨hk.1.1,⟨hk.2,⟨hk.1.2.1,⟨hk.1.2.2.1,⟨hk.1.2.2.2.1,⟨hk.1.2.2.2.2.1,hk.1.2.2.2.2.2⟩⟩⟩⟩⟩⟩)⟩,⟨mR_ O_131002 (fun _ hk=>⟨hk.1.1,⟨hk.2,hk.1.2⟩⟩)⟩,⟨bk_ Q101.o⟩,⟨bk_ Q130.o⟩,⟨si2_ HI0 N0_101 N0_130⟩,⟨kp2_ HK GW101 GW130⟩,⟨be3_ HB.o (IsS149.ge HI0.o) G101.o G130.o⟩⟩
         rw[iN c111]at H;have d111:=df_ c111;clear c111;obtain⟨c116,H⟩:=ip_ H;have LMc116:=q_ c116;clear c116;generalize hy150:(x131001_3++ [x13_4]:List (List Int))=y150 at H;have Ny150:=q_ hy150.symm;clear hy150;replace H:=Option.bind_eq_some_iff.mp H;obtain⟨⟨t153,t154⟩,A1170,H⟩:=H;dsimp only at H;have A117:=q_ A1170;clear A1170;obtain⟨c118,H⟩:=ip_ H;have LMc118:=q_ c118;clear c118;generalize hy155:(x131002_3++ [wrap64 (t153-1)]:List Int)=y155 at H;have Ny155:=q_ hy155.symm;clear hy155;have H':=q_ H;clear H;have hnb119:=N130_101.o;have hnc119:=N101_130.o;have hnb120:=N130_0.o;have hnc120:=N0_130.o;obtain⟨z121_0,z121_1,z121_2,y121_0,y121_1,y121_2⟩:=d3_ Q130;obtain⟨Ao123,co123,eo123⟩:=Kd.R_slice O_13.o;subst eo123
         try go_wp2_with(((with_reducible refine gate_builtin (b:= .append) (xs:=#[.tmp 87, .tmp 89]) rfl ?_);at_builtin;refine Kd.N_append (Kd.slice 2 (Kd.int .i64)) w.heap.size rfl (.tmp 87) (.tmp 89) 23 22 (.slice none 0 0) 24 rfl Try.underlying23 info22 rfl (by decide) (by omega) u131001 x131001_3 x13_4 [.slice Ao123 x13_4.length co123] (fun k_=>(w.heap.size≤k_)∧some k_≠(u131000:Value).ownBlock∧some k_≠(u131002:Value).ownBlock∧k_≠gb101∧k_≠gb130∧k_≠g) (fun k_=>((fun k_=>(w.heap.size≤k_)∧some k_≠(u131000:Value).ownBlock∧some k_≠(u131002:Value).ownBlock∧k_≠gb101∧k_≠gb130∧k_≠g)) k_∧some k_≠(u131001:Value).ownBlock) rfl rfl ?aP (fun _ hk=>hk) ?aF ?aO (Below.refl _ _) ?aS ?aL ?_;(case aP=>exact(Kd.FK_slice_mk (Kd.R_reads' (Kd.R_mono (ok':=(fun k_=>((fun k_=>(w.heap.size≤k_)∧some k_≠(u131000:Value).ownBlock∧some k_≠(u131002:Value).ownBlock∧k_≠gb101∧k_≠gb130∧k_≠g)) k_∧some k_≠(u131001:Value).ownBlock)) (IsS149.apart HI0.o (Kd.R_types (Kd.R_types (Kd.R_apart' (O_13.o) (Kd.N_typed O_131001.o) (by decide)) Q101.o (by decide)) Q130.o (by decide)) (by decide)) (fun k_ hk=>⟨⟨hk.1.1.1.1.1,⟨hk.1.1.1.1.2.1,⟨hk.1.1.1.1.2.2,⟨hk.1.1.2,⟨hk.1.2,hk.2⟩⟩⟩⟩⟩,hk.1.1.1.2⟩))).2.1 (Kd.R_F (Kd.R_mono (ok':=(fun k_=>((fun k_=>(w.heap.size≤k_)∧some k_≠(u131000:Value).ownBlock∧some k_≠(u131002:Value).ownBlock∧k_≠gb101∧k_≠gb130∧k_≠g)) k_∧some k_≠(u131001:Value).ownBlock)) (IsS149.apart HI0.o (Kd.R_types (Kd.R_types (Kd.R_apart' (O_13.o) (Kd.N_typed O_131001.o) (by decide)) Q101.o (by decide)) Q130.o (by decide)) (by decide)) (fun k_ hk=>⟨⟨hk.1.1.1.1.1,⟨hk.1.1.1.1.2.1,⟨hk.1.1.1.1.2.2,⟨hk.1.1.2,⟨hk.1.2,hk.2⟩⟩⟩⟩⟩,hk.1.1.1.2⟩)))));(case aF=>exact(fun k_ hk=>⟨(Nat.le_trans (ks2_ HK GW101 GW130) hk),Kd.fresh' (Kd.R_lt (ra_ O_131000.o)) k_ hk,Kd.fresh' (Kd.R_lt (ra_ O_131002.o)) k_ hk,fb_ Q101 hk,fb_ Q130 hk,IsS149.fresh (si2_ HI0 N0_101 N0_130) k_ hk⟩));(case aO=>exact(mN_ O_131001 (fun _ hk=>⟨hk.1,⟨hk.2.2.1,⟨hk.2.2.2.1,⟨hk.2.2.2.2.1,⟨hk.2.2.2.2.2.1,hk.2.2.2.2.2.2⟩⟩⟩⟩⟩)));(case aS=>exact(ks2_ HK GW101 GW130));(case aL=>have:=LMc116.o;omega);intro v151 w122 ho hb hg hat;rw[←Ny150.o]at ho;have O152:=q_ (ho);replace O_131000:=q_ (Kd.R_over' (ra_ O_131000.o) (Kd.N_typed (na_ O_131001.o)) (by decide) hg);replace O_131002:=q_ (Kd.R_over' (ra_ O_131002.o) (Kd.N_typed (na_ O_131001.o)) (by decide) hg);replace Q101:=bg_ Q101 hg (Kd.N_ne O_131001.o Q101.o (by decide));replace Q130:=bg_ Q130 hg (Kd.N_ne O_131001.o Q130.o (by decide));replace HB:=q_ (below_weaken (be3_ HB.o (IsS149.ge HI0.o) G101.o G130.o) HL.o hb);replace HI0:=q_ (IsS149.grown (si2_ HI0 N0_101 N0_130) hg (IsS149.own_neN HI0.o O_131001.o (by decide)));replace HK:=q_ (KeepBut.trans (kp2_ HK GW101 GW130) (KeepBut.of_grown hg g) (Kd.N_base2 O_131001.o));clear O_131001 O_13 ho hb hg hat;obtain⟨Ao124,co124,eo124⟩:=Kd.N_slice O152.o;subst eo124;obtain⟨z125_0,z125_1,z125_2,y125_0,y125_1,y125_2⟩:=d3_ Q130))
         have n0_:J0 (Kd.R (Kd.int .i64) 2 (w122.setCell ⟨gb130,1,none⟩ (.slice Ao124 y150.length co124)) w.heap.size (fun k_=>(w.heap.size≤k_)∧some k_≠(u131002:Value).ownBlock) u131000 x131000_2):=⟨Kd.R_mono (rfR_ (Kd.R_types O_131000.o Q130.o (by decide))) (fun _ hk=>⟨hk.1.1,hk.1.2.2⟩)⟩;have n1_:J0 (Kd.R (Kd.int .i64) 2 (w122.setCell ⟨gb130,1,none⟩ (.slice Ao124 y150.length co124)) w.heap.size (fun k_=>(w.heap.size≤k_)∧some k_≠(u131000:Value).ownBlock) u131002 x131002_3):=⟨Kd.R_mono (rfR_ (Kd.R_types O_131002.o Q130.o (by decide))) (fun _ hk=>⟨hk.1.1,hk.1.2.2⟩)⟩;have n2_:J0 (Kd.N (Kd.slice 2 (Kd.int .i64)) 22 (w122.setCell ⟨gb130,1,none⟩ (.slice Ao124 y150.length co124)) w.heap.size (fun k_=>(w.heap.size≤k_)∧some k_≠(u131000:Value).ownBlock∧some k_≠(u131002:Value).ownBlock∧k_≠gb101∧k_≠gb130∧k_≠g) (.slice Ao124 y150.length co124) y150):=⟨Kd.N_mono (rfN_ (Kd.N_mono O152.o (fun k_ hk=>(⟨hk,hk.2.2.2.2.1⟩:_∧k_≠gb130)))) (fun _ hk=>⟨hk.1.1,⟨hk.1.2.1,⟨hk.1.2.2.1,⟨hk.1.2.2.2.1,⟨hk.1.2.2.2.2.1,hk.1.2.2.2.2.2⟩⟩⟩⟩⟩)⟩;have n3_:J0 ((w122.setCell ⟨gb130,1,none⟩ (.slice Ao124 y150.length co124)).heap[gb101]? =some (.cells #[.slice none 0 0, .slice none 0 0, .slice none 0 0] 32 (0,0))):=⟨by(with_reducible repeat(first|refine blk_drewN ?_ _|refine blk_drew ?_|refine blk_alloc ?_ _));refine blk_far ?_ N101_130.o _;(with_reducible repeat(first|refine blk_drewN ?_ _|refine blk_drew ?_|refine blk_alloc ?_ _));exact Q101.o⟩;have n4_:J0 ((w122.setCell ⟨gb130,1,none⟩ (.slice Ao124 y150.length co124)).heap[gb130]? =some (.cells #[u131000, .slice Ao124 y150.length co124,u131002] 32 (0,0))):=⟨by(with_reducible repeat(first|refine blk_drewN ?_ _|refine blk_drew ?_|refine blk_alloc ?_ _));refine blk_put (cs:=#[u131000,u131001,u131002]) ?_ 1 _ rfl;(with_reducible repeat(first|refine blk_drewN ?_ _|refine blk_drew ?_|refine blk_alloc ?_ _));exact Q130.o⟩;have n5_:J0 (IsS149 w0 (w122.setCell ⟨gb130,1,none⟩ (.slice Ao124 y150.length co124)) g s0_0 x1001_4):=⟨si2_ HI0 N0_101 N0_130⟩;have n6_:J0 (KeepBut w (w122.setCell ⟨gb130,1,none⟩ (.slice Ao124 y150.length co124)) g none):=⟨kp2_ HK GW101 GW130⟩;have n7_:J0 (Below w0.heap.size w0 (w122.setCell ⟨gb130,1,none⟩ (.slice Ao124 y150.length co124))):=⟨be3_ HB.o (IsS149.ge HI0.o) G101.o G130.o⟩;clear O_131000;clear O_131002;clear O152;clear Q101;clear Q130;clear HI0;clear HK;clear HB;generalize(w122.setCell ⟨gb130,1,none⟩ (.slice Ao124 y150.length co124))=w126 at n0_ n1_ n2_ n3_ n4_ n5_ n6_ n7_ ⊢;have O_131000:=n0_;have O_131002:=n1_;have O152:=n2_;have Q101:=n3_;have Q130:=n4_;have HI0:=n5_;have HK:=n6_;have HB:=n7_;clear n0_ n1_ n2_ n3_ n4_ n5_ n6_ n7_;replace O_131000:=q_ (Kd.R_drew O_131000.o);replace O_131002:=q_ (Kd.R_drew O_131002.o);replace O152:=q_ (Kd.N_drew O152.o);replace Q101:=q_ (blk_drew Q101.o);replace Q130:=q_ (blk_drew Q130.o);replace HI0:=q_ (IsS149.drew HI0.o);replace HK:=q_ (keep_drew HK.o);replace HB:=q_ (below_drew1 HB.o);refine start_ (n:=9) (S:=fun w'=>w'.cell? ⟨gb130,0,none⟩=some (u131000)∧w'.cell? ⟨gb130,1,none⟩=some (.slice Ao124 y150.length co124)∧w'.cell? ⟨gb130,2,none⟩=some (u131002)) (ds:=[8]) (bb 9 0) (by kernel_rfl) rfl rfl ⟨(blk_cell Q130.o 0).trans rfl,(blk_cell Q130.o 1).trans rfl,(blk_cell Q130.o 2).trans rfl⟩ (fun hHeld=>?_);refine with_tabW spec_l1Rd_dfa.tab25 spec_l1Rd_dfa.bits25 (fun HT_ HW_=>?_);generalize w126.drew=w127 at O_131000 O_131002 O152 Q101 Q130 HI0 HK HB hHeld ⊢;refine pv_ 0 92 1 HT_.o ?_;refine pv_ 2 94 5 HT_.o ?_;refine tv_ 1 93 7 HT_.o HW_.o hHeld ?_;refine one_ (i:=3) (N:=some 95) (bb 9 15) rfl rfl (one_of HT_.o (by kernel_rfl)) (by decide) (fun K hK=>?_);refine gs_ Try.func66 #[.pointer (some ⟨g,0,none⟩), .int .i64 4] ?_
         with_reducible refine(spec_l1Rd_below.calls g s0_0 x1001_4 4 t153 t154 w0 _ ?side1 ?side2 A117.o).mono ?_
         (case side1=>exact si2_ HI0 N0_101 N0_130);(case side2=>exact be3_ HB.o (IsS149.ge HI0.o) G101.o G130.o);rintro e w128 ⟨rfl,hi,hb,hk⟩;refine⟨_,rfl,?_⟩;replace O_131000:=q_ (Kd.R_mono (Kd.R_keep (IsS149.apart (show IsS149 w0 _ g s0_0 x1001_4 from si2_ HI0 N0_101 N0_130) (ra_ O_131000.o) (by decide)) hk (fun _ h=>h.2)) (fun _ h=>h.1));replace O_131002:=q_ (Kd.R_mono (Kd.R_keep (IsS149.apart (show IsS149 w0 _ g s0_0 x1001_4 from si2_ HI0 N0_101 N0_130) (ra_ O_131002.o) (by decide)) hk (fun _ h=>h.2)) (fun _ h=>h.1));replace Q101:=kbk_ hk Q101 N101_0;replace Q130:=kbk_ hk Q130 N130_0;replace O152:=q_ (Kd.N_mono (Kd.N_keep (Kd.N_mono (ok:=fun k_=>(((w.heap.size≤k_))∧(some k_≠(u131000:Value).ownBlock∧(some k_≠(u131002:Value).ownBlock∧(k_≠gb101∧(k_≠gb130∧k_≠g)))))) (na_ O152.o) (fun k_ hk_=>(⟨hk_,hk_.2.2.2.2.2⟩:_∧k_≠g))) hk (fun _ h=>h.2)) (fun _ h=>h.1));replace HK:=kt2_ HK GW101 GW130 hk;replace HB:=q_ (hb);replace HI0:=q_ (hi);clear hb;clear hk;clear hi;refine hK.out _ _ ⟨(blk_cell Q130.o 0).trans rfl,(blk_cell Q130.o 1).trans rfl,(blk_cell Q130.o 2).trans rfl⟩ (fun hHeld=>?_);clear hK K;refine no_ (some 95) ?_;refine pv_ 4 96 31 HT_.o ?_;refine one_ (i:=5) (N:=some 97) (bb 9 63) rfl rfl (one_of HT_.o (by kernel_rfl)) (by decide) (fun K hK=>?_);refine value_ (w1:=?_) (v:=?_) (by rfl) rfl ?_ ?_;rotate_left 2
         ·go_simp
          constructor
          ·rfl
          ·rfl
         refine hK.out _ _ ⟨(blk_cell (blk_alloc Q130.o _) 0).trans rfl,(blk_cell (blk_alloc Q130.o _) 1).trans rfl,(blk_cell (blk_alloc Q130.o _) 2).trans rfl⟩ (fun hHeld=>?_);clear hK K;refine no_ (some 97) ?_;refine one_ (i:=6) (N:=some 98) (bb 9 127) rfl rfl (one_of HT_.o (by kernel_rfl)) (by decide) (fun K hK=>?_);refine Kd.R_append_step (Kd.int .i64) w.heap.size (by rfl) (.tmp 93) (.tmp 97) 22 2 (.int .i64 0) 8 rfl Try.underlying22 info2 rfl (by decide) (by omega) u131002 x131002_3 (wrap64 (t153-1)) [.int .i64 (wrap64 (t153-1))] (fun k_=>(w.heap.size≤k_)∧some k_≠(u131000:Value).ownBlock) (fun _=>False) rfl rfl ?aP (fun _ hk=>hk.elim) ?aF ?aO (Below.refl _ _) ?aS ?aL ?_;(case aP=>exact rfl);(case aF=>exact(fun k_ hk=>⟨(Nat.le_trans (ks2_ HK GW101 GW130) hk),Kd.fresh' (Kd.R_lt (ra_ O_131000.o)) k_ hk⟩));(case aO=>exact(ra_ O_131002.o));(case aS=>exact(ks2_ HK GW101 GW130));(case aL=>have:=LMc118.o;omega);intro v156 w129 ho hb hg hat;rw[←Ny155.o]at ho;have O157:=q_ (ho);replace O_131000:=q_ (Kd.R_after (ok:=(fun k_=>(w.heap.size≤k_))) (ra_ O_131000.o) hg hat);replace Q101:=bg_ Q101 hg (Kd.R_ne O_131002.o Q101.o (by decide));replace Q130:=bg_ Q130 hg (Kd.R_ne O_131002.o Q130.o (by decide));replace O152:=q_ (Kd.N_afterv (ok:=(fun k_=>(w.heap.size≤k_)∧some k_≠(u131000:Value).ownBlock∧k_≠gb101∧k_≠gb130∧k_≠g)) (mN_ O152 (fun _ hk=>⟨⟨hk.1,⟨hk.2.1,⟨hk.2.2.2.1,⟨hk.2.2.2.2.1,hk.2.2.2.2.2⟩⟩⟩⟩,hk.2.2.1⟩)) hg hat);replace HB:=q_ (below_weaken (be3_ HB.o (IsS149.ge HI0.o) G101.o G130.o) HL.o hb);replace HI0:=q_ (IsS149.grown (si2_ HI0 N0_101 N0_130) hg (IsS149.own_ne HI0.o O_131002.o (by decide)));replace HK:=q_ (KeepBut.trans (kp2_ HK GW101 GW130) (KeepBut.of_grown hg g) (Kd.R_base2 O_131002.o));clear O_131002 ho hb hg hat;obtain⟨Ao130,co130,eo130⟩:=Kd.R_slice O157.o
         (subst eo130)
         refine hK.out _ _ ⟨(blk_cell Q130.o 0).trans rfl,(blk_cell Q130.o 1).trans rfl,(blk_cell Q130.o 2).trans rfl⟩ (fun hHeld=>?_);clear hK K;refine no_ (some 98) ?_;refine pv_ 7 99 255 HT_.o ?_;refine last_ (i:=8) (N:=none) (bb 9 511) rfl rfl (one_of HT_.o (by kernel_rfl)) (by decide) (fun K hK=>?_);have hs131:w129.cell? ⟨gb130,2,none⟩=some (u131002):=(blk_cell Q130.o 2).trans rfl;have hfs131:=blk_frozen Q130.o 2;have hns131_0:=N101_130.o;have hms131_0:=N130_101.o;refine skip_ (w1:=?_) (by rfl) rfl ?_ ?_;rotate_left
         ·go_simp
          rfl
         refine hK.out _ _ ?_;clear hK K;refine done_ (done_of HT_.o (by kernel_rfl)) ?_
         try go_wp2
         go_roundg k4
         case measure=>have:=HJ2.o;have:=HK2.o;have:=HK3.o;have:=HK4.o;omega
         case rel=>exact⟨(wrap64 (x12_3+1)),(t154),(y150),(y155),(.slice Ao124 y150.length co124),(.slice Ao130 y155.length co130),rs_,H',⟨by have:=HJ2.o;have:=HK2.o;have:=HK3.o;have:=HK4.o;omega⟩,⟨Kd.R_mono (rfR_ (Kd.R_types O_131000.o Q130.o (by decide))) (fun _ hk=>⟨hk.1.1,hk.1.2⟩)⟩,⟨Kd.N_mono (rfN_ (Kd.N_mono O152.o (fun k_ hk=>(⟨hk,hk.1.2.2.2.1⟩:_∧k_≠gb130)))) (fun _ hk=>⟨hk.1.1.1,⟨hk.1.1.2.1,⟨hk.1.2,⟨hk.1.1.2.2.1,⟨hk.1.1.2.2.2.1,hk.1.1.2.2.2.2⟩⟩⟩⟩⟩)⟩,⟨Kd.R_mono (rfR_ (Kd.R_types O157.o Q130.o (by decide))) (fun _ hk=>⟨hk.1.1,hk.1.2⟩)⟩,⟨by(with_reducible repeat(first|refine blk_drewN ?_ _|refine blk_drew ?_|refine blk_alloc ?_ _));refine blk_far ?_ N101_130.o _;(with_reducible repeat(first|refine blk_drewN ?_ _|refine blk_drew ?_|refine blk_alloc ?_ _));exact Q101.o⟩,⟨by(with_reducible repeat(first|refine blk_drewN ?_ _|refine blk_drew ?_|refine blk_alloc ?_ _));refine blk_put (cs:=#[u131000, .slice Ao124 y150.length co124,u131002]) ?_ 2 _ rfl;(with_reducible repeat(first|refine blk_drewN ?_ _|refine blk_drew ?_|refine blk_alloc ?_ _));exact Q130.o⟩,⟨si2_ HI0 N0_101 N0_130⟩,⟨kp2_ HK GW101 GW130⟩,⟨be3_ HB.o (IsS149.ge HI0.o) G101.o G130.o⟩⟩
def spec_l7Blocks.l0:Nat→List Int→Int→Int→Option (Int)
 |0,_,_,_=>none
 |k+1,x0,x3,x4=>if x4<256 then(if 0≤x4 then(if x4<(x0.length:Int)then((spec_l1In.f (rd x0 x4) 0 x3).bind fun t102=>(if t102=true then(spec_l7Blocks.l0 k x0 (mx x3 (wrap64 ((rd x0 x4)+1))) (wrap64 (x4+1)))else(some (-1))))else(none))else(none))else(some x3)
def spec_l7Blocks.f(k:Nat)(l0:List Int):Option (Int):=if(l0.length:Int)=256 then(spec_l7Blocks.l0 k l0 0 0)else(some (-1))
theorem spec_l7Blocks.mono_l:∀k,(∀y0 y1 y2,LeO (spec_l7Blocks.l0 k y0 y1 y2) (spec_l7Blocks.l0 (k+1) y0 y1 y2))
 |0=>fun _ _ _ r h=>by simp[spec_l7Blocks.l0]at h
 | k+1=>by
  have ih0:=spec_l7Blocks.mono_l k
  ·intro y0 y1 y2
   unfold spec_l7Blocks.l0
   repeat' first
   | (with_reducible exact ih0 _ _ _)
   | (with_reducible exact LeO.refl _)
   | (with_reducible exact LeO.none _)
   | (with_reducible refine LeO.ite ?_ ?_)
   | (with_reducible refine LeO.bind ?_ (fun _=>?_))
   |exact ih0 _ _ _
theorem spec_l7Blocks.mono:∀a0 k,LeO (spec_l7Blocks.f k a0) (spec_l7Blocks.f (k+1) a0):=by
 intro a0 k;have ih0:=spec_l7Blocks.mono_l k;unfold spec_l7Blocks.f
 repeat' first
  | (with_reducible exact ih0 _ _ _)
  | (with_reducible exact LeO.refl _)
  | (with_reducible exact LeO.none _)
  | (with_reducible refine LeO.ite ?_ ?_)
  | (with_reducible refine LeO.bind ?_ (fun _=>?_))
  |exact ih0 _ _ _
theorem spec_l7Blocks.calls(k:Nat)(A0:Option Addr)(c0:Nat)(l0:List Int)(r:Int)(w:World)(hr0:Kd.C (Kd.int .i64) w A0 l0.length l0)(hc0:l0.length≤c0)(h:spec_l7Blocks.f k l0=some r):
  Calls Try.prog 102 #[.slice A0 l0.length c0] w fun e w'=>e= .returned (.int .i64 r)∧Below w.heap.size w w':=by
 have HR0:=q_ hr0;have HC0:=q_ hc0;clear hr0 hc0;have HB:=q_ (Below.refl w.heap.size w);have H:(if(l0.length:Int)=256 then(spec_l7Blocks.l0 k l0 0 0)else(some (-1)))=some r:=h;clear h;by_cases c2:(l0.length:Int)=256;rotate_left
 ·rw[iN c2]at H;have c2b0:((l0.length:Int)==256)=false:=beq_eq_false_iff_ne.mpr c2;have c2b1:((l0.length:Int) != 256)=true:=bne_iff_ne.mpr c2;obtain rfl:=Option.some.inj H;go_enter Try.func102,Try.ntmps102;go_wp2
  go_ret
  exact⟨rt_,be_ HB.o⟩
 rw[iP c2]at H;have c2b0:((l0.length:Int)==256)=true:=beq_iff_eq.mpr c2;have c2b1:((l0.length:Int) != 256)=false:=bne_eq_false_iff_eq.mpr c2;clear c2;have H':=q_ H;clear H;go_enter Try.func102,Try.ntmps102;go_wp2
 go_loopg [3,4] k (fun kq v3 v4 w'=>∃(x3_1:Int) (x4_1:Int),v3= .int .i64 x3_1∧v4= .int .i64 x4_1∧J0 (spec_l7Blocks.l0 kq l0 x3_1 x4_1=some r)∧J0 (kq≤k)∧J0 (Below w.heap.size w w'))
 case atStart=>exact⟨(0),(0),rs_,rs_,H',⟨Nat.le_refl _⟩,⟨be_ HB.o⟩⟩
 case round=>
  clear H';clear c2b0 c2b1;obtain⟨x3_1,x4_1,rfl,rfl,HA,HK1,HB⟩:=hrel;cases gk with
  |zero=>exact absurd HA.o (by simp[spec_l7Blocks.l0])
  | succ k1=>
   have H:=HA.o;clear HA;simp only[spec_l7Blocks.l0]at H;by_cases c3:x4_1<256;rotate_left
   ·rw[iN c3]at H;have c3b0:=df_ c3;clear c3;obtain rfl:=Option.some.inj H;go_wp2
    go_ret
    exact⟨rt_,be_ HB.o⟩
   rw[iP c3]at H;have c3b0:=dt_ c3;clear c3;obtain⟨c4b0,H⟩:=iq_ H;obtain⟨c5b0,H⟩:=iq_ H;obtain⟨t102,A6,H⟩:=ob_ H;by_cases c7:t102=true;rotate_left
   ·replace c7:=Bool.eq_false_iff.mpr c7;subst c7;rw[iN nft_]at H;obtain rfl:=Option.some.inj H;obtain⟨p101,q101⟩:=pq_ x4_1 (l0.length:Int);obtain⟨ad101,e101,X101_0⟩:=Kd.at_int HR0.o x4_1 p101 q101;cases e101;replace X101_0:=mv_ HB.o X101_0;obtain⟨p101,q101⟩:=et_ p101 q101
    go_wp2_with(((with_reducible refine gate_callee (f:=60) rfl ?_);refine gl_ (some 17) rfl rfl Try.func60 #[.int .i64 (rd l0 x4_1), .int .i64 0, .int .i64 x3_1] ?_;(with_reducible refine(spec_l1In.calls (rd l0 x4_1) 0 x3_1 false _ A6.o).mono ?_);rintro e w' ⟨rfl,⟨nd,rfl⟩⟩;refine⟨_,rfl,?_⟩))
    go_ret
    exact⟨rt_,be_ HB.o⟩
   subst c7;rw[iP rfl]at H;obtain⟨ji8,hji8⟩:∃j_:Int,(mx x3_1 (wrap64 ((rd l0 x4_1)+1)))=j_:=⟨_,rfl⟩;replace H:(spec_l7Blocks.l0 k1 l0 ji8 (wrap64 (x4_1+1)))=some r:=by(rw[hji8]at H;exact H)
   have hji8_:(if x3_1<(wrap64 ((rd l0 x4_1)+1))then(wrap64 ((rd l0 x4_1)+1))else x3_1)=ji8:=hji8;have H':=q_ H;clear H;obtain⟨p101,q101⟩:=pq_ x4_1 (l0.length:Int);obtain⟨ad101,e101,X101_0⟩:=Kd.at_int HR0.o x4_1 p101 q101;cases e101;replace X101_0:=mv_ HB.o X101_0;obtain⟨p101,q101⟩:=et_ p101 q101
   go_wp2_with(((with_reducible refine gate_callee (f:=60) rfl ?_);refine gl_ (some 17) rfl rfl Try.func60 #[.int .i64 (rd l0 x4_1), .int .i64 0, .int .i64 x3_1] ?_;(with_reducible refine(spec_l1In.calls (rd l0 x4_1) 0 x3_1 true _ A6.o).mono ?_);rintro e w' ⟨rfl,⟨nd,rfl⟩⟩;refine⟨_,rfl,?_⟩;obtain⟨p103,q103⟩:=pq_ x4_1 (l0.length:Int);obtain⟨ad103,e103,X103_0⟩:=Kd.at_int HR0.o x4_1 p103 q103;obtain rfl:ad101=ad103:=(by injection e103);replace X103_0:=mv_ HB.o X103_0;replace p103:=eq_true p103;replace q103:=eq_true q103))
   go_roundg k1
   case measure=>have:=HK1.o;omega
   case rel=>exact⟨(ji8),(wrap64 (x4_1+1)),(by rfl),rs_,H',⟨by have:=HK1.o;omega⟩,⟨be_ HB.o⟩⟩
mutual
def spec_DfaOk.j0:Nat→Int→Int→Bool→List Int→List (List Int)→List Int→Option (Bool)
 |0,_,_,_,_,_,_=>none
 |k+1,x3,x4,x29,x102000,x102001,x102002=>if x29=true then(some false)else(spec_DfaOk.l0 k x3 x4 0 x102000 x102001 x102002)
def spec_DfaOk.l0:Nat→Int→Int→Int→List Int→List (List Int)→List Int→Option (Bool)
 |0,_,_,_,_,_,_=>none
 |k+1,x3,x4,x5,x102000,x102001,x102002=>if x5<x3 then(if 0≤x5 then(if x5<(x102002.length:Int)then((spec_l1In.f (rd x102002 x5) (-1) 39).bind fun t104=>(if t104=true then(if x5<(x102001.length:Int)then(spec_DfaOk.j2 k x3 x4 x5 (((rd_L1 x102001 x5).length:Int) != x4) x102000 x102001 x102002)else(none))else(spec_DfaOk.j2 k x3 x4 x5 true x102000 x102001 x102002)))else(none))else(none))else(some true)
def spec_DfaOk.j2:Nat→Int→Int→Int→Bool→List Int→List (List Int)→List Int→Option (Bool)
 |0,_,_,_,_,_,_,_=>none
 |k+1,x3,x4,x5,x51,x102000,x102001,x102002=>if x51=true then(some false)else(spec_DfaOk.l1 k x3 x4 x5 0 x102000 x102001 x102002)
def spec_DfaOk.l1:Nat→Int→Int→Int→Int→List Int→List (List Int)→List Int→Option (Bool)
 |0,_,_,_,_,_,_,_=>none
 |k+1,x3,x4,x5,x6,x102000,x102001,x102002=>if x6<x4 then(if 0≤x5 then(if x5<(x102001.length:Int)then(if 0≤x6 then(if x6<((rd_L1 x102001 x5).length:Int)then((spec_l1In.f (rd (rd_L1 x102001 x5) x6) 0 (wrap64 (x3-1))).bind fun t108=>(if t108=true then(spec_DfaOk.l1 k x3 x4 x5 (wrap64 (x6+1)) x102000 x102001 x102002)else(some false)))else(none))else(none))else(none))else(none))else(spec_DfaOk.l0 k x3 x4 (wrap64 (x5+1)) x102000 x102001 x102002)
end
def spec_DfaOk.f(k:Nat)(l0_0:List Int)(l0_1:List (List Int))(l0_2:List Int):Option (Bool):=(spec_l7Blocks.f k l0_0).bind fun t102=>(if(l0_1.length:Int)<1 then(spec_DfaOk.j0 k (l0_1.length:Int) t102 true l0_0 l0_1 l0_2)else(if(l0_1.length:Int)>1000 then(spec_DfaOk.j0 k (l0_1.length:Int) t102 true l0_0 l0_1 l0_2)else(if(l0_2.length:Int)=(l0_1.length:Int)then(spec_DfaOk.j0 k (l0_1.length:Int) t102 (decide (t102<0)) l0_0 l0_1 l0_2)else(spec_DfaOk.j0 k (l0_1.length:Int) t102 true l0_0 l0_1 l0_2))))
theorem spec_DfaOk.mono_l:∀k,(∀y0 y1 y2 y3 y4 y5,LeO (spec_DfaOk.j0 k y0 y1 y2 y3 y4 y5) (spec_DfaOk.j0 (k+1) y0 y1 y2 y3 y4 y5))∧(∀y0 y1 y2 y3 y4 y5,LeO (spec_DfaOk.l0 k y0 y1 y2 y3 y4 y5) (spec_DfaOk.l0 (k+1) y0 y1 y2 y3 y4 y5))∧(∀y0 y1 y2 y3 y4 y5 y6,LeO (spec_DfaOk.j2 k y0 y1 y2 y3 y4 y5 y6) (spec_DfaOk.j2 (k+1) y0 y1 y2 y3 y4 y5 y6))∧(∀y0 y1 y2 y3 y4 y5 y6,LeO (spec_DfaOk.l1 k y0 y1 y2 y3 y4 y5 y6) (spec_DfaOk.l1 (k+1) y0 y1 y2 y3 y4 y5 y6))
 |0=>⟨fun _ _ _ _ _ _ r h=>by simp[spec_DfaOk.j0]at h,fun _ _ _ _ _ _ r h=>by simp[spec_DfaOk.l0]at h,fun _ _ _ _ _ _ _ r h=>by simp[spec_DfaOk.j2]at h,fun _ _ _ _ _ _ _ r h=>by simp[spec_DfaOk.l1]at h⟩
 | k+1=>by
  obtain⟨ih0,ih1,ih2,ih3⟩:=spec_DfaOk.mono_l k;refine⟨?_,?_,?_,?_⟩
  ·intro y0 y1 y2 y3 y4 y5
   unfold spec_DfaOk.j0
   repeat' first
   | (with_reducible exact ih0 _ _ _ _ _ _)
   | (with_reducible exact ih1 _ _ _ _ _ _)
   | (with_reducible exact ih2 _ _ _ _ _ _ _)
   | (with_reducible exact ih3 _ _ _ _ _ _ _)
   | (with_reducible exact spec_l7Blocks.mono _ _)
   | (with_reducible exact LeO.refl _)
   | (with_reducible exact LeO.none _)
   | (with_reducible refine LeO.ite ?_ ?_)
   | (with_reducible refine LeO.bind ?_ (fun _=>?_))
   |exact ih0 _ _ _ _ _ _
   |exact ih1 _ _ _ _ _ _
   |exact ih2 _ _ _ _ _ _ _
   |exact ih3 _ _ _ _ _ _ _
   |refine LeO.bind ?_ (fun _=>?_)
  ·intro y0 y1 y2 y3 y4 y5
   unfold spec_DfaOk.l0
   repeat' first
   | (with_reducible exact ih0 _ _ _ _ _ _)
   | (with_reducible exact ih1 _ _ _ _ _ _)
   | (with_reducible exact ih2 _ _ _ _ _ _ _)
   | (with_reducible exact ih3 _ _ _ _ _ _ _)
   | (with_reducible exact spec_l7Blocks.mono _ _)
   | (with_reducible exact LeO.refl _)
   | (with_reducible exact LeO.none _)
   | (with_reducible refine LeO.ite ?_ ?_)
   | (with_reducible refine LeO.bind ?_ (fun _=>?_))
   |exact ih0 _ _ _ _ _ _
   |exact ih1 _ _ _ _ _ _
   |exact ih2 _ _ _ _ _ _ _
   |exact ih3 _ _ _ _ _ _ _
   |refine LeO.bind ?_ (fun _=>?_)
  ·intro y0 y1 y2 y3 y4 y5 y6
   unfold spec_DfaOk.j2
   repeat' first
   | (with_reducible exact ih0 _ _ _ _ _ _)
   | (with_reducible exact ih1 _ _ _ _ _ _)
   | (with_reducible exact ih2 _ _ _ _ _ _ _)
   | (with_reducible exact ih3 _ _ _ _ _ _ _)
   | (with_reducible exact spec_l7Blocks.mono _ _)
   | (with_reducible exact LeO.refl _)
   | (with_reducible exact LeO.none _)
   | (with_reducible refine LeO.ite ?_ ?_)
   | (with_reducible refine LeO.bind ?_ (fun _=>?_))
   |exact ih0 _ _ _ _ _ _
   |exact ih1 _ _ _ _ _ _
   |exact ih2 _ _ _ _ _ _ _
   |exact ih3 _ _ _ _ _ _ _
   |refine LeO.bind ?_ (fun _=>?_)
  ·intro y0 y1 y2 y3 y4 y5 y6
   unfold spec_DfaOk.l1
   repeat' first
   | (with_reducible exact ih0 _ _ _ _ _ _)
   | (with_reducible exact ih1 _ _ _ _ _ _)
   | (with_reducible exact ih2 _ _ _ _ _ _ _)
   | (with_reducible exact ih3 _ _ _ _ _ _ _)
   | (with_reducible exact spec_l7Blocks.mono _ _)
   | (with_reducible exact LeO.refl _)
   | (with_reducible exact LeO.none _)
   | (with_reducible refine LeO.ite ?_ ?_)
   | (with_reducible refine LeO.bind ?_ (fun _=>?_))
   |exact ih0 _ _ _ _ _ _
   |exact ih1 _ _ _ _ _ _
   |exact ih2 _ _ _ _ _ _ _
   |exact ih3 _ _ _ _ _ _ _
theorem spec_DfaOk.mono:∀a0 a1 a2 k,LeO (spec_DfaOk.f k a0 a1 a2) (spec_DfaOk.f (k+1) a0 a1 a2):=by
 intro a0 a1 a2 k;obtain⟨ih0,ih1,ih2,ih3⟩:=spec_DfaOk.mono_l k;unfold spec_DfaOk.f
 repeat' first
  | (with_reducible exact ih0 _ _ _ _ _ _)
  | (with_reducible exact ih1 _ _ _ _ _ _)
  | (with_reducible exact ih2 _ _ _ _ _ _ _)
  | (with_reducible exact ih3 _ _ _ _ _ _ _)
  | (with_reducible exact spec_l7Blocks.mono _ _)
  | (with_reducible exact LeO.refl _)
  | (with_reducible exact LeO.none _)
  | (with_reducible refine LeO.ite ?_ ?_)
  | (with_reducible refine LeO.bind ?_ (fun _=>?_))
  |exact ih0 _ _ _ _ _ _
  |exact ih1 _ _ _ _ _ _
  |exact ih2 _ _ _ _ _ _ _
  |exact ih3 _ _ _ _ _ _ _
theorem spec_DfaOk.calls(k:Nat)(A0_0:Option Addr)(c0_0:Nat)(l0_0:List Int)(A0_1:Option Addr)(c0_1:Nat)(l0_1:List (List Int))(A0_2:Option Addr)(c0_2:Nat)(l0_2:List Int)(r:Bool)(w:World)(hr0_0:Kd.C (Kd.int .i64) w A0_0 l0_0.length l0_0)(hc0_0:l0_0.length≤c0_0)(hr0_1:Kd.C (Kd.slice 2 (Kd.int .i64)) w A0_1 l0_1.length l0_1)(hc0_1:l0_1.length≤c0_1)(hr0_2:Kd.C (Kd.int .i64) w A0_2 l0_2.length l0_2)(hc0_2:l0_2.length≤c0_2)(h:spec_DfaOk.f k l0_0 l0_1 l0_2=some r):
  Calls Try.prog 40 #[.agg #[.slice A0_0 l0_0.length c0_0, .slice A0_1 l0_1.length c0_1, .slice A0_2 l0_2.length c0_2]] w fun e w'=>e= .returned (.bool r)∧Below w.heap.size w w':=by
 have hu32:=Try.underlying32;have HR0_0:=q_ hr0_0;have HC0_0:=q_ hc0_0;clear hr0_0 hc0_0;have HR0_1:=q_ hr0_1;have HC0_1:=q_ hc0_1;clear hr0_1 hc0_1;have HR0_2:=q_ hr0_2;have HC0_2:=q_ hc0_2;clear hr0_2 hc0_2;have HB:=q_ (Below.refl w.heap.size w);have H:((spec_l7Blocks.f k l0_0).bind fun t102=>(if(l0_1.length:Int)<1 then(spec_DfaOk.j0 k (l0_1.length:Int) t102 true l0_0 l0_1 l0_2)else(if(l0_1.length:Int)>1000 then(spec_DfaOk.j0 k (l0_1.length:Int) t102 true l0_0 l0_1 l0_2)else(if(l0_2.length:Int)=(l0_1.length:Int)then(spec_DfaOk.j0 k (l0_1.length:Int) t102 (decide (t102<0)) l0_0 l0_1 l0_2)else(spec_DfaOk.j0 k (l0_1.length:Int) t102 true l0_0 l0_1 l0_2)))))=some r:=h;clear h;obtain⟨t102,A2,H⟩:=ob_ H;have HC3:=q_ H;clear H;go_enter Try.func40,Try.ntmps40;go_upto_region 3 with(first| ((with_reducible refine gate_dst (N:=1) rfl ?_);(try(refine gate_guard (by rfl) ?_;dsimp only));refine bx_ 1 #[.slice A0_0 l0_0.length c0_0, .slice A0_1 l0_1.length c0_1, .slice A0_2 l0_2.length c0_2] 32 ?_;intro gb101 hg w4 hbox hb;have Q101:=q_ (hbox);have G101:=ge_ hg HB;replace HB:=sb_ HB hb;clear hb hbox hg;obtain⟨z5_0,z5_1,z5_2,y5_0,y5_1,y5_2⟩:=d3_ Q101)| ((with_reducible refine gate_callee (f:=102) rfl ?_);refine gl_ (some 12) rfl rfl Try.func102 #[.slice A0_0 l0_0.length c0_0] ?_;(with_reducible refine(spec_l7Blocks.calls k _ _ l0_0 t102 _ ?side1 ?side2 A2.o).mono ?_);(case side1=>exact Kd.C_below HR0_0.o (be_ HB.o));(case side2=>exact HC0_0.o);rintro e w6 ⟨rfl,hb⟩;refine⟨_,rfl,?_⟩;replace Q101:=lb_ Q101 hb;replace HB:=sb1_ HB G101 hb;clear hb))
 go_cut [29] (fun v29 wc=>∃(kq:Nat) (x29_2:Bool),v29= .bool x29_2∧J0 (spec_DfaOk.j0 kq (l0_1.length:Int) t102 x29_2 l0_0 l0_1 l0_2=some r)∧J0 (kq≤k)∧J0 (wc.heap[gb101]? =some (.cells #[(.slice A0_0 l0_0.length c0_0),(.slice A0_1 l0_1.length c0_1),(.slice A0_2 l0_2.length c0_2)] 32 (0,0)))∧J0 (Below w.heap.size w wc))
 case first=>
  have H:=HC3.o;clear HC3;by_cases c7:(l0_1.length:Int)<1
  ·rw[iP c7]at H;have c7b0:=dt_ c7;have c7b1:decide (l0_1.length<1)=true:=decide_eq_true (by omega);clear c7
   (skip)
   have H':=q_ H;clear H;go_wp2;go_meet
   case rel=>exact⟨_,(true),rs_,H',⟨by omega⟩,⟨bk_ Q101.o⟩,⟨be1_ HB.o G101.o⟩⟩
  rw[iN c7]at H;have c7b0:=df_ c7;have c7b1:decide (l0_1.length<1)=false:=decide_eq_false (by omega);clear c7
  (skip)
  by_cases c8:(l0_1.length:Int)>1000
  ·rw[iP c8]at H;have c8b0:decide (1000<(l0_1.length:Int))=true:=dt_ c8;have c8b1:decide (1000<l0_1.length)=true:=decide_eq_true (by omega);clear c8;have H':=q_ H;clear H;go_wp2
   go_meet
   case rel=>exact⟨_,(true),rs_,H',⟨by omega⟩,⟨bk_ Q101.o⟩,⟨be1_ HB.o G101.o⟩⟩
  rw[iN c8]at H;have c8b0:decide (1000<(l0_1.length:Int))=false:=df_ c8;have c8b1:decide (1000<l0_1.length)=false:=decide_eq_false (by omega);clear c8;by_cases c9:(l0_2.length:Int)=(l0_1.length:Int);rotate_left
  ·rw[iN c9]at H;have c9b0:((l0_2.length:Int)== (l0_1.length:Int))=false:=beq_eq_false_iff_ne.mpr c9;have c9b1:((l0_2.length:Int) != (l0_1.length:Int))=true:=bne_iff_ne.mpr c9
   have c9b2:(l0_2.length==l0_1.length)=false:=by(simp at c9 ⊢;omega)
   have H':=q_ H;clear H;obtain⟨z11_0,z11_1,z11_2,y11_0,y11_1,y11_2⟩:=d3_ Q101;go_wp2;go_meet
   case rel=>exact⟨_,(true),rs_,H',⟨by omega⟩,⟨bk_ Q101.o⟩,⟨be1_ HB.o G101.o⟩⟩
  rw[iP c9]at H;have c9b0:((l0_2.length:Int)== (l0_1.length:Int))=true:=beq_iff_eq.mpr c9;have c9b1:((l0_2.length:Int) != (l0_1.length:Int))=false:=bne_eq_false_iff_eq.mpr c9;have c9b2:(l0_2.length==l0_1.length)=true:=by(simp at c9 ⊢;omega)
  clear c9;have H':=q_ H;clear H;obtain⟨z10_0,z10_1,z10_2,y10_0,y10_1,y10_2⟩:=d3_ Q101;go_wp2;go_meet
  case rel=>exact⟨_,(decide (t102<0)),rs_,H',⟨by omega⟩,⟨bk_ Q101.o⟩,⟨be1_ HB.o G101.o⟩⟩
 case rest=>
  clear HC3 z5_0 z5_1 z5_2 y5_0 y5_1 y5_2;obtain⟨kq,x29_2,rfl,HA,HJ2,Q101,HB⟩:=hcut;cases kq with
  |zero=>exact absurd HA.o (by simp[spec_DfaOk.j0])
  | succ kj2=>
   have H:=HA.o;clear HA;simp only[spec_DfaOk.j0]at H;by_cases c12:x29_2=true
   ·subst c12;rw[iP rfl]at H;obtain rfl:=Option.some.inj H;go_wp2
    go_ret
    exact⟨rt_,be1_ HB.o G101.o⟩
   replace c12:=Bool.eq_false_iff.mpr c12;subst c12;rw[iN nft_]at H;have H':=q_ H;clear H;go_wp2
   go_loopg [5] kj2 (fun kq v5 w'=>∃(x5_2:Int),v5= .int .i64 x5_2∧J0 (spec_DfaOk.l0 kq (l0_1.length:Int) t102 x5_2 l0_0 l0_1 l0_2=some r)∧J0 (kq≤kj2)∧J0 (w'.heap[gb101]? =some (.cells #[(.slice A0_0 l0_0.length c0_0),(.slice A0_1 l0_1.length c0_1),(.slice A0_2 l0_2.length c0_2)] 32 (0,0)))∧J0 (Below w.heap.size w w'))
   case atStart=>exact⟨(0),rs_,H',⟨Nat.le_refl _⟩,⟨bk_ Q101.o⟩,⟨be1_ HB.o G101.o⟩⟩
   case round=>
    clear H';obtain⟨x5_2,rfl,HA,HK2,Q101,HB⟩:=hrel;cases gk with
    |zero=>exact absurd HA.o (by simp[spec_DfaOk.l0])
    | succ k2=>
     have H:=HA.o;clear HA;simp only[spec_DfaOk.l0]at H;by_cases c13:x5_2<(l0_1.length:Int);rotate_left
     ·rw[iN c13]at H;have d13:=df_ c13;clear c13;obtain rfl:=Option.some.inj H;go_wp2
      go_ret
      exact⟨rt_,be1_ HB.o G101.o⟩
     rw[iP c13]at H;have d13:=dt_ c13;clear c13;have HC14:=q_ H;clear H;go_upto_region 8 with(fail)
     go_cut [51] (fun v51 wc=>∃(kq:Nat) (x51_13:Bool),v51= .bool x51_13∧J0 (spec_DfaOk.j2 kq (l0_1.length:Int) t102 x5_2 x51_13 l0_0 l0_1 l0_2=some r)∧J0 (kq≤k2)∧J0 (wc.heap[gb101]? =some (.cells #[(.slice A0_0 l0_0.length c0_0),(.slice A0_1 l0_1.length c0_1),(.slice A0_2 l0_2.length c0_2)] 32 (0,0)))∧J0 (Below w.heap.size w wc))
     case first=>
      have H:=HC14.o;clear HC14;obtain⟨d15,H⟩:=iq_ H
      (skip)
      obtain⟨d16,H⟩:=iq_ H;obtain⟨t104,A17,H⟩:=ob_ H;obtain⟨z20_0,z20_1,z20_2,y20_0,y20_1,y20_2⟩:=d3_ Q101;obtain⟨p103,q103⟩:=pq_ x5_2 (l0_2.length:Int);obtain⟨ad103,e103,X103_0⟩:=Kd.at_int HR0_2.o x5_2 p103 q103;cases e103;replace X103_0:=mv_ HB.o X103_0;obtain⟨p103,q103⟩:=et_ p103 q103;by_cases c18:t104=true;rotate_left
      ·replace c18:=Bool.eq_false_iff.mpr c18;subst c18;rw[iN nft_]at H;have H':=q_ H;clear H
       go_wp2_with(((with_reducible refine gate_callee (f:=60) rfl ?_);refine gl_ (some 40) rfl rfl Try.func60 #[.int .i64 (rd l0_2 x5_2), .int .i64 (-1), .int .i64 39] ?_;(with_reducible refine(spec_l1In.calls (rd l0_2 x5_2) (-1) 39 false _ A17.o).mono ?_);rintro e w' ⟨rfl,⟨nd,rfl⟩⟩;refine⟨_,rfl,?_⟩))
       go_meet
       case rel=>exact⟨_,(true),rs_,H',⟨by have:=HJ2.o;have:=HK2.o;first|omega|exact Nat.le_refl _⟩,⟨bk_ Q101.o⟩,⟨be1_ HB.o G101.o⟩⟩
      subst c18;rw[iP rfl]at H;obtain⟨d19,H⟩:=iq_ H;have H':=q_ H;clear H
      go_wp2_with(((with_reducible refine gate_callee (f:=60) rfl ?_);refine gl_ (some 40) rfl rfl Try.func60 #[.int .i64 (rd l0_2 x5_2), .int .i64 (-1), .int .i64 39] ?_;(with_reducible refine(spec_l1In.calls (rd l0_2 x5_2) (-1) 39 true _ A17.o).mono ?_);rintro e w' ⟨rfl,⟨nd,rfl⟩⟩;refine⟨_,rfl,?_⟩;obtain⟨p105,q105⟩:=pq_ x5_2 (l0_1.length:Int);obtain⟨ad105,A105_0,c105_0,e105,X105_0,hl105_0,hi105_0⟩:=at_L1 HR0_1.o x5_2 p105 q105;cases e105;replace X105_0:=mv_ HB.o X105_0;have HR105_0:=q_ hi105_0;have HC105_0:=q_ hl105_0;clear hi105_0 hl105_0;replace p105:=eq_true p105;replace q105:=eq_true q105))
      go_meet
      case rel=>exact⟨_,((((rd_L1 l0_1 x5_2).length:Int) != t102)),rs_,H',⟨by have:=HJ2.o;have:=HK2.o;first|omega|exact Nat.le_refl _⟩,⟨bk_ Q101.o⟩,⟨be1_ HB.o G101.o⟩⟩
     case rest=>
      clear HC14 d13;obtain⟨kq,x51_13,rfl,HA,HJ13,Q101,HB⟩:=hcut;cases kq with
      |zero=>exact absurd HA.o (by simp[spec_DfaOk.j2])
      | succ kj13=>
       have H:=HA.o;clear HA;simp only[spec_DfaOk.j2]at H;by_cases c22:x51_13=true
       ·subst c22;rw[iP rfl]at H;obtain rfl:=Option.some.inj H;go_wp2
        go_ret
        exact⟨rt_,be1_ HB.o G101.o⟩
       replace c22:=Bool.eq_false_iff.mpr c22;subst c22;rw[iN nft_]at H;have H':=q_ H;clear H;go_wp2
       go_loopg [6] kj13 (fun kq v6 w'=>∃(x6_4:Int),v6= .int .i64 x6_4∧J0 (spec_DfaOk.l1 kq (l0_1.length:Int) t102 x5_2 x6_4 l0_0 l0_1 l0_2=some r)∧J0 (kq≤kj13)∧J0 (w'.heap[gb101]? =some (.cells #[(.slice A0_0 l0_0.length c0_0),(.slice A0_1 l0_1.length c0_1),(.slice A0_2 l0_2.length c0_2)] 32 (0,0)))∧J0 (Below w.heap.size w w'))
       case atStart=>exact⟨(0),rs_,H',⟨Nat.le_refl _⟩,⟨bk_ Q101.o⟩,⟨be1_ HB.o G101.o⟩⟩
       case round=>
        clear H';obtain⟨x6_4,rfl,HA,HK4,Q101,HB⟩:=hrel;cases gk with
        |zero=>exact absurd HA.o (by simp[spec_DfaOk.l1])
        | succ k4=>
         have H:=HA.o;clear HA;simp only[spec_DfaOk.l1]at H;by_cases c23:x6_4<t102;rotate_left
         ·rw[iN c23]at H;have d23:=df_ c23;clear c23;have H':=q_ H;clear H;go_wp2
          go_roundg k4
          case measure=>have:=HJ2.o;have:=HK2.o;have:=HJ13.o;have:=HK4.o;omega
          case rel=>exact⟨(wrap64 (x5_2+1)),rs_,H',⟨by have:=HJ2.o;have:=HK2.o;have:=HJ13.o;have:=HK4.o;omega⟩,⟨bk_ Q101.o⟩,⟨be1_ HB.o G101.o⟩⟩
         rw[iP c23]at H;have d23:=dt_ c23;clear c23;obtain⟨d24,H⟩:=iq_ H;obtain⟨d25,H⟩:=iq_ H;obtain⟨d26,H⟩:=iq_ H;obtain⟨d27,H⟩:=iq_ H;obtain⟨t108,A28,H⟩:=ob_ H;obtain⟨z30_0,z30_1,z30_2,y30_0,y30_1,y30_2⟩:=d3_ Q101;obtain⟨p106,q106⟩:=pq_ x5_2 (l0_1.length:Int);obtain⟨ad106,A106_0,c106_0,e106,X106_0,hl106_0,hi106_0⟩:=at_L1 HR0_1.o x5_2 p106 q106;cases e106;replace X106_0:=mv_ HB.o X106_0;have HR106_0:=q_ hi106_0;have HC106_0:=q_ hl106_0;obtain⟨p106,q106⟩:=et_ p106 q106;obtain⟨p107,q107⟩:=pq_ x6_4 ((rd_L1 l0_1 x5_2).length:Int);obtain⟨ad107,e107,X107_0⟩:=Kd.at_int HR106_0.o x6_4 p107 q107;cases e107;replace X107_0:=mv_ HB.o X107_0;obtain⟨p107,q107⟩:=et_ p107 q107;by_cases c29:t108=true;rotate_left
         ·replace c29:=Bool.eq_false_iff.mpr c29;subst c29;rw[iN nft_]at H;obtain rfl:=Option.some.inj H;clear hi106_0 hl106_0
          go_wp2_with(((with_reducible refine gate_callee (f:=60) rfl ?_);refine gl_ (some 67) rfl rfl Try.func60 #[.int .i64 (rd (rd_L1 l0_1 x5_2) x6_4), .int .i64 0, .int .i64 (wrap64 ((l0_1.length:Int)-1))] ?_;(with_reducible refine(spec_l1In.calls (rd (rd_L1 l0_1 x5_2) x6_4) 0 (wrap64 ((l0_1.length:Int)-1)) false _ A28.o).mono ?_);rintro e w' ⟨rfl,⟨nd,rfl⟩⟩;refine⟨_,rfl,?_⟩))
          go_ret
          exact⟨rt_,be1_ HB.o G101.o⟩
         subst c29;rw[iP rfl]at H;have H':=q_ H;clear H;clear hi106_0 hl106_0
         go_wp2_with(((with_reducible refine gate_callee (f:=60) rfl ?_);refine gl_ (some 67) rfl rfl Try.func60 #[.int .i64 (rd (rd_L1 l0_1 x5_2) x6_4), .int .i64 0, .int .i64 (wrap64 ((l0_1.length:Int)-1))] ?_;(with_reducible refine(spec_l1In.calls (rd (rd_L1 l0_1 x5_2) x6_4) 0 (wrap64 ((l0_1.length:Int)-1)) true _ A28.o).mono ?_);rintro e w' ⟨rfl,⟨nd,rfl⟩⟩;refine⟨_,rfl,?_⟩))
         go_roundg k4
         case measure=>have:=HJ2.o;have:=HK2.o;have:=HJ13.o;have:=HK4.o;omega
         case rel=>exact⟨(wrap64 (x6_4+1)),rs_,H',⟨by have:=HJ2.o;have:=HK2.o;have:=HJ13.o;have:=HK4.o;omega⟩,⟨bk_ Q101.o⟩,⟨be1_ HB.o G101.o⟩⟩
mutual
def spec_l10Default.l0:Nat→List Int→Int→List Int→Int→Option (Int)
 |0,_,_,_,_=>none
 |k+1,x0,x1,x5,x6=>if x6<(x0.length:Int)then(if 0≤x6 then(if 0≤(rd x0 x6)then(if(rd x0 x6)<(x5.length:Int)then(spec_l10Default.l0 k x0 x1 (x5.set ((rd x0 x6):Int).toNat (wrap64 ((rd x5 (rd x0 x6))+1))) (wrap64 (x6+1)))else(none))else(none))else(none))else(spec_l10Default.l1 k x1 x5 0 0)
def spec_l10Default.l1:Nat→Int→List Int→Int→Int→Option (Int)
 |0,_,_,_,_=>none
 |k+1,x1,x5,x7,x8=>if x8<x1 then(if 0≤x8 then(if x8<(x5.length:Int)then(if 0≤x7 then(if x7<(x5.length:Int)then(if(rd x5 x8)>(rd x5 x7)then(spec_l10Default.l1 k x1 x5 x8 (wrap64 (x8+1)))else(spec_l10Default.l1 k x1 x5 x7 (wrap64 (x8+1))))else(none))else(none))else(none))else(none))else(some x7)
end
def spec_l10Default.f(k:Nat)(l0:List Int)(a1:Int):Option (Int):=if 0≤a1 then(if(a1:Int).toNat≤35184372088832 then(spec_l10Default.l0 k l0 a1 (List.replicate (a1:Int).toNat 0) 0)else(none))else(none)
theorem spec_l10Default.mono_l:∀k,(∀y0 y1 y2 y3,LeO (spec_l10Default.l0 k y0 y1 y2 y3) (spec_l10Default.l0 (k+1) y0 y1 y2 y3))∧(∀y0 y1 y2 y3,LeO (spec_l10Default.l1 k y0 y1 y2 y3) (spec_l10Default.l1 (k+1) y0 y1 y2 y3))
 |0=>⟨fun _ _ _ _ r h=>by simp[spec_l10Default.l0]at h,fun _ _ _ _ r h=>by simp[spec_l10Default.l1]at h⟩
 | k+1=>by
  obtain⟨ih0,ih1⟩:=spec_l10Default.mono_l k;refine⟨?_,?_⟩
  ·intro y0 y1 y2 y3
   unfold spec_l10Default.l0
   repeat' first
   | (with_reducible exact ih0 _ _ _ _)
   | (with_reducible exact ih1 _ _ _ _)
   | (with_reducible exact LeO.refl _)
   | (with_reducible exact LeO.none _)
   | (with_reducible refine LeO.ite ?_ ?_)
   | (with_reducible refine LeO.bind ?_ (fun _=>?_))
   |exact ih0 _ _ _ _
   |exact ih1 _ _ _ _
   |refine LeO.bind ?_ (fun _=>?_)
  ·intro y0 y1 y2 y3
   unfold spec_l10Default.l1
   repeat' first
   | (with_reducible exact ih0 _ _ _ _)
   | (with_reducible exact ih1 _ _ _ _)
   | (with_reducible exact LeO.refl _)
   | (with_reducible exact LeO.none _)
   | (with_reducible refine LeO.ite ?_ ?_)
   | (with_reducible refine LeO.bind ?_ (fun _=>?_))
   |exact ih0 _ _ _ _
   |exact ih1 _ _ _ _
theorem spec_l10Default.mono:∀a0 a1 k,LeO (spec_l10Default.f k a0 a1) (spec_l10Default.f (k+1) a0 a1):=by
 intro a0 a1 k;obtain⟨ih0,ih1⟩:=spec_l10Default.mono_l k;unfold spec_l10Default.f
 repeat' first
  | (with_reducible exact ih0 _ _ _ _)
  | (with_reducible exact ih1 _ _ _ _)
  | (with_reducible exact LeO.refl _)
  | (with_reducible exact LeO.none _)
  | (with_reducible refine LeO.ite ?_ ?_)
  | (with_reducible refine LeO.bind ?_ (fun _=>?_))
  |exact ih0 _ _ _ _
  |exact ih1 _ _ _ _
theorem spec_l10Default.calls(k:Nat)(A0:Option Addr)(c0:Nat)(l0:List Int)(a1:Int)(r:Int)(w:World)(hr0:Kd.C (Kd.int .i64) w A0 l0.length l0)(hc0:l0.length≤c0)(h:spec_l10Default.f k l0 a1=some r):
  Calls Try.prog 41 #[.slice A0 l0.length c0, .int .i64 a1] w fun e w'=>e= .returned (.int .i64 r)∧Below w.heap.size w w':=by
 have HR0:=q_ hr0;have HC0:=q_ hc0;clear hr0 hc0;have HB:=q_ (Below.refl w.heap.size w);have H:(if 0≤a1 then(if(a1:Int).toNat≤35184372088832 then(spec_l10Default.l0 k l0 a1 (List.replicate (a1:Int).toNat 0) 0)else(none))else(none))=some r:=h;clear h;obtain⟨c3,H⟩:=ip_ H;have c3b0:=eq_true c3;have c3b1:=dt_ c3;clear c3;obtain⟨c4,H⟩:=ip_ H;have c4b0:=eq_true c4;have c4b1:=dt_ c4;clear c4;generalize hy101:(List.replicate (a1:Int).toNat 0:List Int)=y101 at H;have Ny101:=q_ hy101.symm;clear hy101;have H':=q_ H;clear H;go_enter Try.func41,Try.ntmps41
 go_wp2_with(((with_reducible refine gate_dst (N:=10) rfl ?_);refine Kd.R_make (Kd.int .i64) _ 2 rfl (N:=10) rfl 22 _ _ rfl a1 rfl rfl Try.underlying22 (.int .i64 0) 8 info2 rfl (by decide) (by omega) 0 (ok:=fun _=>True) (okp:=fun _=>True) rfl (fun _ hk=>hk) trivial (ot_ as_) (Nat.le_trans (Nat.mul_le_mul_right _ (ot_ as_:a1.toNat≤35184372088832)) (by omega)) (Below.refl _ _) (Nat.le_refl _) ?_;intro v102 w5 ho6 hb hg_ hnew_;clear hg_ hnew_;(rw[←Ny101.o]at ho6);have O103:=q_ (Kd.R_lower ho6 (below_size (be_ HB.o)));replace HB:=sb_ HB hb;clear hb ho6))
 go_loopg [6] k (fun kq v6 w'=>∃(x5_1:List Int) (x6_1:Int),v6= .int .i64 x6_1∧J0 (spec_l10Default.l0 kq l0 a1 x5_1 x6_1=some r)∧J0 (kq≤k)∧J0 (Kd.R (Kd.int .i64) 2 w' w.heap.size (fun _=>True) v102 x5_1)∧J0 (Below w.heap.size w w'))
 case atStart=>exact⟨(y101),(0),rs_,H',⟨Nat.le_refl _⟩,⟨ra_ O103.o⟩,⟨be_ HB.o⟩⟩
 case round=>
  clear H';clear c3b0 c3b1 c4b0 c4b1;obtain⟨x5_1,x6_1,rfl,HA,HK1,O_5,HB⟩:=hrel;cases gk with
  |zero=>exact absurd HA.o (by simp[spec_l10Default.l0])
  | succ k1=>
   have H:=HA.o;clear HA;simp only[spec_l10Default.l0]at H;by_cases c7:x6_1<(l0.length:Int)
   ·rw[iP c7]at H;have c7b0:=dt_ c7;clear c7;obtain⟨c8b0,H⟩:=iq_ H;obtain⟨c9b0,H⟩:=iq_ H;obtain⟨d10,H⟩:=iq_ H;generalize hy106:(x5_1.set ((rd l0 x6_1):Int).toNat (wrap64 ((rd x5_1 (rd l0 x6_1))+1)):List Int)=y106 at H;have Ny106:=q_ hy106.symm;clear hy106;have H':=q_ H;clear H;obtain⟨p104,q104⟩:=pq_ x6_1 (l0.length:Int);obtain⟨ad104,e104,X104_0⟩:=Kd.at_int HR0.o x6_1 p104 q104;cases e104;replace X104_0:=mv_ HB.o X104_0;obtain⟨p104,q104⟩:=et_ p104 q104;obtain⟨Ao12,co12,eo12⟩:=Kd.R_slice O_5.o;subst eo12;obtain⟨p105,q105⟩:=pq_ (rd l0 x6_1) (x5_1.length:Int);obtain⟨ad105,e105,X105_0⟩:=Kd.at_int (Kd.R_reads' O_5.o).2.2 (rd l0 x6_1) p105 q105;cases e105;obtain⟨p105,q105⟩:=et_ p105 q105;obtain⟨p11,q11⟩:=pq_ (rd l0 x6_1) ((x5_1.length:Int):Int);obtain⟨go11,co11,eo11,gb11,gl11,cl11,HG11⟩:=Kd.R_form O_5.o (by omega)
    (cases eo11);have GB11:=q_ gb11;have GG11:=q_ HG11;clear gb11 gl11 HG11
    (simp only[add_plain]at X105_0)
    obtain⟨X11_0,hf11_0⟩:=Kd.R_celln 0 O_5.o ((rd l0 x6_1):Int) p11 q11;obtain⟨p11,q11⟩:=et_ p11 q11;have HP13:=Kd.R_putg O_5.o ((rd l0 x6_1):Int) (wrap64 ((rd x5_1 (rd l0 x6_1))+1))
    go_wp2_with(((with_reducible refine gate_store (t:=2) (p:=25) rfl ?_);refine store_event (t:=2) (p:=25) (v:=?vo_w14) (w1:=(wr.setCell ⟨go11,((rd l0 x6_1):Int).toNat,none⟩ (.int .i64 (wrap64 ((rd x5_1 (rd l0 x6_1))+1))))) ?hg ?ho ?hn ?hr ?_;(case ho=>rfl);(case hg=>rfl);(case hn=>rfl);(case hr=>first| (go_simp;done)| (go_simp;rfl));intro w14 hw;have hg:wr.grownBy w14 (some go11):=(by rw[hw];exact HP13.2);have hp_:Kd.R (Kd.int .i64) 2 w14 w.heap.size (fun _=>True) (.slice (some ⟨go11,0,none⟩) x5_1.length co12) y106:=(by rw[hw,Ny106.o];exact HP13.1);clear HP13;replace O_5:=q_ (hp_);replace HB:=q_ ((by rw[hw];exact below_set (HB.o) GB11.out:Below w.heap.size w w14));clear hg hw hp_))
    go_roundg k1
    case measure=>have:=HK1.o;omega
    case rel=>exact⟨(y106),(wrap64 (x6_1+1)),rs_,H',⟨by have:=HK1.o;omega⟩,⟨ra_ O_5.o⟩,⟨be_ HB.o⟩⟩
   rw[iN c7]at H;have c7b0:=df_ c7;clear c7;have H':=q_ H;clear H;go_wp2
   go_loopg [7,8] k1 (fun kq v7 v8 w'=>∃(x7_2:Int) (x8_2:Int),v7= .int .i64 x7_2∧v8= .int .i64 x8_2∧J0 (spec_l10Default.l1 kq a1 x5_1 x7_2 x8_2=some r)∧J0 (kq≤k1)∧J0 (Kd.R (Kd.int .i64) 2 w' w.heap.size (fun _=>True) v102 x5_1)∧J0 (Below w.heap.size w w'))
   case atStart=>exact⟨(0),(0),rs_,rs_,H',⟨Nat.le_refl _⟩,⟨ra_ O_5.o⟩,⟨be_ HB.o⟩⟩
   case round=>
    clear H';clear c7b0;obtain⟨x7_2,x8_2,rfl,rfl,HA,HK2,O_5,HB⟩:=hrel;cases gk with
    |zero=>exact absurd HA.o (by simp[spec_l10Default.l1])
    | succ k2=>
     have H:=HA.o;clear HA;simp only[spec_l10Default.l1]at H;by_cases c15:x8_2<a1;rotate_left
     ·rw[iN c15]at H;have d15:=df_ c15;clear c15;obtain rfl:=Option.some.inj H;go_wp2
      go_ret
      exact⟨rt_,be_ HB.o⟩
     rw[iP c15]at H;have d15:=dt_ c15;clear c15;obtain⟨d16,H⟩:=iq_ H;obtain⟨d17,H⟩:=iq_ H;obtain⟨d18,H⟩:=iq_ H;obtain⟨d19,H⟩:=iq_ H;by_cases c20:(rd x5_1 x8_2)>(rd x5_1 x7_2)
     ·rw[iP c20]at H;have d20:decide ((rd x5_1 x7_2)<(rd x5_1 x8_2))=true:=dt_ c20;clear c20;have H':=q_ H;clear H;obtain⟨Ao21,co21,eo21⟩:=Kd.R_slice O_5.o;subst eo21;obtain⟨p107,q107⟩:=pq_ x8_2 (x5_1.length:Int);obtain⟨ad107,e107,X107_0⟩:=Kd.at_int (Kd.R_reads' O_5.o).2.2 x8_2 p107 q107;cases e107;obtain⟨p107,q107⟩:=et_ p107 q107;obtain⟨p108,q108⟩:=pq_ x7_2 (x5_1.length:Int);obtain⟨ad108,e108,X108_0⟩:=Kd.at_int (Kd.R_reads' O_5.o).2.2 x7_2 p108 q108;obtain rfl:ad107=ad108:=(by injection e108);obtain⟨p108,q108⟩:=et_ p108 q108;go_wp2
      repeat(go_quiet (fail);try go_wp2)
      go_roundg k2
      case measure=>have:=HK1.o;have:=HK2.o;omega
      case rel=>exact⟨(x8_2),(wrap64 (x8_2+1)),rs_,rs_,H',⟨by have:=HK1.o;have:=HK2.o;omega⟩,⟨ra_ O_5.o⟩,⟨be_ HB.o⟩⟩
     rw[iN c20]at H;have d20:decide ((rd x5_1 x7_2)<(rd x5_1 x8_2))=false:=df_ c20;clear c20;have H':=q_ H;clear H;obtain⟨Ao22,co22,eo22⟩:=Kd.R_slice O_5.o;subst eo22;obtain⟨p107,q107⟩:=pq_ x8_2 (x5_1.length:Int);obtain⟨ad107,e107,X107_0⟩:=Kd.at_int (Kd.R_reads' O_5.o).2.2 x8_2 p107 q107;cases e107;obtain⟨p107,q107⟩:=et_ p107 q107;obtain⟨p108,q108⟩:=pq_ x7_2 (x5_1.length:Int);obtain⟨ad108,e108,X108_0⟩:=Kd.at_int (Kd.R_reads' O_5.o).2.2 x7_2 p108 q108;obtain rfl:ad107=ad108:=(by injection e108);obtain⟨p108,q108⟩:=et_ p108 q108;go_wp2
     repeat(go_quiet (fail);try go_wp2)
     go_roundg k2
     case measure=>have:=HK1.o;have:=HK2.o;omega
     case rel=>exact⟨(x7_2),(wrap64 (x8_2+1)),rs_,rs_,H',⟨by have:=HK1.o;have:=HK2.o;omega⟩,⟨ra_ O_5.o⟩,⟨be_ HB.o⟩⟩
end Go.Proofs.Ytlecpdpdcocibaa.P
namespace Go.Proofs.Ytlecpdpdcocibaa.P
open Go.RowKit Go.Shelf Go.Maps Go.Proofs.YtlecpdpdcocibaaW.PrintWords Go.Proofs.YtlecpdpdcocibaaW.PrintLast Go.Proofs.YtlecpdpdcocibaaW.PrintMore Go.Proofs.YtlecpdpdcocibaaEv
set_option linter.unusedVariables false
set_option linter.unusedSimpArgs false
structure Cnt (D:DataW Unit) (l:List Int):Prop where
 map:IsMap D
 look:∀x:Int,D.atKey (.int .i64 x) (.lit (.int .i64 0))= .lit (.int .i64 (l.count x:Nat))
 has:∀x:Int,Maps.has D (.int .i64 x)=decide (x∈l)
theorem Cnt.start:Cnt (.map []) []:=⟨⟨[],rfl⟩,fun x=>rfl,fun x=>rfl⟩
theorem Cnt.step{D:DataW Unit}{l:List Int}(h:Cnt D l)(x:Int):Cnt (D.put (.int .i64 x) (.lit (.int .i64 ((l.count x:Nat)+1)))) (l++ [x]):=by
 refine⟨h.map.put _ _,fun y=>?_,fun y=>?_⟩
 ·by_cases e:y=x
  ·subst e
   rw[atKey_put_same h.map (show WideAt.IsKeyLit (.int .i64 y)from trivial),List.count_append];simp
  ·rw[atKey_put_other (by simpa using e),h.look y,List.count_append,show[x].count y=0 from List.count_eq_zero_of_not_mem (by simpa using e)]
   rfl
 ·by_cases e:y=x
  ·subst e
   rw[has_put_same h.map (show WideAt.IsKeyLit (.int .i64 y)from trivial)];simp
  ·rw[has_put_other (by simpa using e),h.has y]
   simp[e]
def MostOf(l:List Int)(b:Int):Prop:=b∈l∧∀y∈l,l.count y<l.count b∨(l.count y=l.count b∧b≤y)
end Go.Proofs.Ytlecpdpdcocibaa.P
namespace Go.Proofs.Ytlecpdpdcocibaa.P
open Go.RowKit Go.Proofs.YtlecpdpdcocibaaW.PrintWords Go.Proofs.YtlecpdpdcocibaaW.PrintLast Go.Proofs.YtlecpdpdcocibaaEv
set_option linter.unusedVariables false
set_option linter.unusedSimpArgs false
def rowG(block:List Int)(next:List (List Int))(s:Int)(n:Nat):List Int:=(List.range n).map fun b:Nat=>rd (rd_L1 next s) (rd block (b:Int))
theorem rowG_succ(block:List Int)(next:List (List Int))(s:Int)(n:Nat):rowG block next s (n+1)=rowG block next s n++ [rd (rd_L1 next s) (rd block (n:Int))]:=by simp[rowG,List.range_succ]
theorem rowG_length(block:List Int)(next:List (List Int))(s:Int)(n:Nat):(rowG block next s n).length=n:=by simp[rowG]
def armStep(els:Int)(arms:List S81)(b x:Int):List S81:=
 if x=els then arms
 else if 0<arms.length∧(rd_T81 arms ((arms.length:Int)-1)).f1=b-1∧(rd_T81 arms ((arms.length:Int)-1)).f2=x then arms.set (arms.length-1) ⟨(rd_T81 arms ((arms.length:Int)-1)).f0,b,(rd_T81 arms ((arms.length:Int)-1)).f2⟩
 else arms++ [⟨b,b,x⟩]
def armsUp(els:Int)(row:List Int):Nat→List S81
 |0=>[]
 |b+1=>armStep els (armsUp els row b) (b:Int) (rd row (b:Int))
theorem armStep_length(els:Int)(arms:List S81)(b x:Int):(armStep els arms b x).length≤arms.length+1:=by
 unfold armStep;split
 ·omega
 ·split
  ·simp
  ·simp
theorem armsUp_length(els:Int)(row:List Int):∀b,(armsUp els row b).length≤b
 |0=>Nat.le_refl _
 |b+1=>Nat.le_trans (armStep_length _ _ _ _) (by have:=armsUp_length els row b;omega)
end Go.Proofs.Ytlecpdpdcocibaa.P
namespace Go.Proofs.Ytlecpdpdcocibaa.P
open Go.RowKit Go.Shelf Go.Proofs.YtlecpdpdcocibaaW.PrintWords Go.Proofs.YtlecpdpdcocibaaW.PrintLast Go.Proofs.YtlecpdpdcocibaaW.PrintMore Go.Proofs.YtlecpdpdcocibaaEv
set_option linter.unusedVariables false
set_option linter.unusedSimpArgs false
theorem infoArm_:(Try.prog.info? 81).map (fun i=>(i.zero,i.size,i.bytes))=some (some (.agg #[(.int .i64 0),(.int .i64 0),(.int .i64 0)]),3,24):=by kernel_rfl
end Go.Proofs.Ytlecpdpdcocibaa.P
namespace Go.Proofs.Ytlecpdpdcocibaa.P
open Go.RowKit Go.Proofs.YtlecpdpdcocibaaW.PrintWords Go.Proofs.YtlecpdpdcocibaaW.PrintLast Go.Proofs.YtlecpdpdcocibaaEv
set_option linter.unusedVariables false
set_option linter.unusedSimpArgs false
def bestUp(c:Nat→Nat):Nat→Nat
 |0=>0
 |s+1=>if c (bestUp c s)<c s then s else bestUp c s
theorem bestUp_lt(c:Nat→Nat):∀s,0<s→bestUp c s<s
 | s + 1,_=>by
   unfold bestUp;split
   ·omega
   · cases s with
     |zero=>exact Nat.zero_lt_one
     |succ s=>have:=bestUp_lt c (s+1) (by omega);omega
theorem bestUp_max(c:Nat→Nat):∀s t,t<s→c t<c (bestUp c s)∨(c t=c (bestUp c s)∧bestUp c s≤t)
  | s + 1,t,ht=>by
    unfold bestUp;split
    · rename_i h
      by_cases e:t=s
      ·subst e;exact .inr ⟨rfl,Nat.le_refl _⟩
      · have:=bestUp_max c s t (by omega)
        omega
    · rename_i h
      by_cases e:t=s
      · subst e
        by_cases z:t=0
        ·subst z;exact .inr ⟨rfl,Nat.le_refl _⟩
        · have:=bestUp_lt c t (by omega)
          omega
      ·exact bestUp_max c s t (by omega)
def cntR(row:List Int)(s:Nat):Nat:=row.count (s:Int)
def bestR(row:List Int)(states:Nat):Int:=(bestUp (cntR row) states:Nat)
theorem bestR_most(row:List Int)(states:Nat)(hne:0<row.length)(h:∀x∈row,0≤x∧x<(states:Int)):MostOf row (bestR row states):=by
 have key:∀y∈row,row.count y<row.count (bestR row states)∨(row.count y=row.count (bestR row states)∧bestR row states≤y):=by
  intro y hy;obtain⟨h0,h1⟩:=h y hy;obtain⟨t,rfl⟩:∃t:Nat,y=(t:Int):=⟨y.toNat,by omega⟩;have:=bestUp_max (cntR row) states t (by omega);obtain⟨b,hb⟩:∃b,b=bestUp (cntR row) states:=⟨_,rfl⟩;unfold bestR;rw[←hb]at this ⊢;have e1:cntR row t=row.count (t:Int):=rfl;have e2:cntR row b=row.count (b:Int):=rfl;omega
 refine⟨?_,key⟩;obtain⟨y,hy⟩:∃y,y∈row:=by
  cases row with
  |nil=>simp at hne
  |cons a r=>exact⟨a,List.mem_cons_self ..⟩
 have hp:0<row.count y:=List.count_pos_iff.2 hy;have:=key y hy;exact List.count_pos_iff.1 (by omega)
def blockG(l0:List Int)(l1:List (List Int))(l2:List Int)(s:Int):S79:=⟨rd l2 s,armsUp (bestR (rowG l0 l1 s 256) l1.length) (rowG l0 l1 s 256) 256,bestR (rowG l0 l1 s 256) l1.length⟩
def codeG(l0:List Int)(l1:List (List Int))(l2:List Int)(n:Nat):List S79:=(List.range n).map fun s:Nat=>blockG l0 l1 l2 (s:Int)
theorem codeG_succ(l0:List Int)(l1:List (List Int))(l2:List Int)(n:Nat):codeG l0 l1 l2 (n+1)=codeG l0 l1 l2 n++ [blockG l0 l1 l2 (n:Int)]:=by simp[codeG,List.range_succ]
theorem codeG_length(l0:List Int)(l1:List (List Int))(l2:List Int)(n:Nat):(codeG l0 l1 l2 n).length=n:=by simp[codeG]
def blk:List Int→Int→Option Int
 | [],n=>some n
 |x :: r,n=>if 0≤x∧x≤n then blk r (max n (x+1))else none
theorem blk_nonneg:∀(l:List Int) (n m:Int),0≤n→blk l n=some m→n≤m
 | [],n,m,h,e=>by simp[blk]at e;omega
 | x :: r,n,m,h,e=>by
   unfold blk at e;split at e
   · have:=blk_nonneg r _ m (by omega) e
     omega
   ·simp at e
theorem blk_all:∀(l:List Int) (n m:Int),0≤n→blk l n=some m→∀x∈l,0≤x∧x<m
  | [],n,m,h,e,y,hy=>by simp at hy
  | x :: r,n,m,h,e,y,hy=>by
    unfold blk at e;split at e
    · rename_i hx
      rcases List.mem_cons.1 hy with rfl|hy
      · have:=blk_nonneg r _ m (by omega) e
        omega
      ·exact blk_all r _ m (by omega) e y hy
    ·simp at e
theorem blk_le:∀(l:List Int) (n m:Int),0≤n→blk l n=some m→m≤n+l.length
 | [],n,m,h,e=>by simp[blk]at e;simp;omega
 | x :: r,n,m,h,e=>by
   unfold blk at e;split at e
   · have:=blk_le r _ m (by omega) e
     rw[List.length_cons];omega
   ·simp at e
def rowB(many n:Int)(l:List Int):Bool:=decide ((l.length:Int)=many)&&l.all fun x=>decide (0≤x∧x≤n-1)
def dfaB(l0:List Int)(l1:List (List Int))(l2:List Int):Bool:=
 decide (1≤(l1.length:Int)∧(l1.length:Int)≤1000)&&(decide ((l2.length:Int)=l1.length)&&((l2.all fun x=>decide (-1≤x∧x≤39))&&(match blk l0 0 with|some m=>decide (l0.length=256)&&l1.all (rowB m l1.length)|none=>false)))
theorem rd_mem{l:List Int}{i:Int}(h0:0≤i)(h1:i<l.length):rd l i∈l:=by
 unfold rd;rw[List.getD_eq_getElem?_getD,List.getElem?_eq_getElem (show i.toNat<l.length by omega)];exact List.getElem_mem _
theorem rd1_mem{l:List (List Int)}{i:Int}(h0:0≤i)(h1:i<l.length):rd_L1 l i∈l:=by
 unfold rd_L1;rw[List.getD_eq_getElem?_getD,List.getElem?_eq_getElem (show i.toNat<l.length by omega)];exact List.getElem_mem _
structure DfaR (l0:List Int) (l1:List (List Int)) (l2:List Int) (m:Int):Prop where
 rows:1≤l1.length∧l1.length≤1000
 acc:l2.length=l1.length
 accs:∀x∈l2, -1≤x∧x≤39
 bytes:l0.length=256
 blks:blk l0 0=some m
 width:∀r∈l1,(r.length:Int)=m
 leads:∀r∈l1,∀x∈r,0≤x∧x<(l1.length:Int)
theorem dfaB_true{l0:List Int}{l1:List (List Int)}{l2:List Int}(h:dfaB l0 l1 l2=true):∃m,DfaR l0 l1 l2 m:=by
 unfold dfaB at h;cases hb:blk l0 0 with
 |none=>rw[hb]at h;simp at h
 | some m=>
   rw[hb]at h;simp only[Bool.and_eq_true,decide_eq_true_eq,List.all_eq_true,rowB]at h;obtain⟨h1,h2,h3,h4,h5⟩:=h;exact⟨m,⟨by omega,by omega,h3,h4,hb,fun r hr=>(h5 r hr).1,fun r hr x hx=>by have:=(h5 r hr).2 x hx;omega⟩⟩
section
variable {l0:List Int} {l1:List (List Int)} {l2:List Int} {m:Int}
theorem DfaR.at_(h:DfaR l0 l1 l2 m)(s:Int)(h0:0≤s)(h1:s<l1.length)(b:Nat)(hb:b<256):0≤rd l0 (b:Int)∧rd l0 (b:Int)<((rd_L1 l1 s).length:Int):=by
 have hx:=blk_all l0 0 m (by omega) h.blks _ (rd_mem (l:=l0) (i:=(b:Int)) (by omega) (by have:=h.bytes;omega));have:=h.width _ (rd1_mem h0 h1);omega
theorem DfaR.to_(h:DfaR l0 l1 l2 m)(s:Int)(h0:0≤s)(h1:s<l1.length)(x:Int)(hx:x∈rowG l0 l1 s 256):0≤x∧x<(l1.length:Int):=by
 unfold rowG at hx;obtain⟨b,hb,rfl⟩:=List.mem_map.1 hx;rw[List.mem_range]at hb;obtain⟨q0,q1⟩:=h.at_ s h0 h1 b hb;exact h.leads _ (rd1_mem h0 h1) _ (rd_mem q0 q1)
theorem DfaR.most(h:DfaR l0 l1 l2 m)(s:Int)(h0:0≤s)(h1:s<l1.length):MostOf (rowG l0 l1 s 256) (bestR (rowG l0 l1 s 256) l1.length):=
 bestR_most _ _ (by rw[rowG_length];omega) (h.to_ s h0 h1)
end
end Go.Proofs.Ytlecpdpdcocibaa.P
