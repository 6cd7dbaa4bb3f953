/- The law FnFuel holds for every call: part 4 of 7 of the proof (walks of functions, and what they answer). Conditions: none beyond what the given row says. -/
import Derived.Test.YtlecpdpdcocibaaMFnFuel0
import Derived.Test.YtlecpdpdcocibaaMFnFuel2
import Derived.Shelf.Abstract
import Derived.Lib.Hide
import Derived.Lib.SliceRun
import Derived.Test.YtlecpdpdcocibaaMFnFuel1
set_option maxHeartbeats 16000000
set_option maxRecDepth 100000
namespace Go.Proofs.Ytlecpdpdcocibaa.P
open Go.RowKit Go.Proofs.YtlecpdpdcocibaaW.PrintWords Go.Proofs.YtlecpdpdcocibaaW.PrintLast Go.Proofs.YtlecpdpdcocibaaW.PrintMore
attribute [local go_sem] max2_int min2_int max_two min_two max_three min_three max_four min_four
set_option linter.unusedVariables false
set_option linter.unusedSimpArgs false
mutual
def spec_RxOk.j0:Nat→Int→Bool→List (S196)→Option (Bool)
 |0,_,_,_=>none
 |k+1,x3,x18,x102000=>if x18=true then(some false)else(if 0≤x3 then(if(x3:Int).toNat≤35184372088832 then(spec_RxOk.l0 k x3 (List.replicate (x3:Int).toNat 0) 0 x102000)else(none))else(none))
def spec_RxOk.l0:Nat→Int→List Int→Int→List (S196)→Option (Bool)
 |0,_,_,_,_=>none
 |k+1,x3,x4,x5,x102000=>if x5<x3 then(if 0≤x5 then(if x5<(x102000.length:Int)then((spec_l3Node.f k ((rd_T196 x102000 x5).f0) ((rd_T196 x102000 x5).f1) ((rd_T196 x102000 x5).f2) ((rd_T196 x102000 x5).f3) ((rd_T196 x102000 x5).f4) x5).bind fun t106=>(if t106=true then(spec_RxOk.l1 k x3 x4 x5 0 x102000)else(some false)))else(none))else(none))else(if 0≤x3 then(if(x3:Int).toNat≤35184372088832 then(spec_RxOk.l2 k x3 x4 (List.replicate (x3:Int).toNat 0) (wrap64 (x3-1)) x102000)else(none))else(none))
def spec_RxOk.l1:Nat→Int→List Int→Int→Int→List (S196)→Option (Bool)
 |0,_,_,_,_,_=>none
 |k+1,x3,x4,x5,x6,x102000=>if 0≤x5 then(if x5<(x102000.length:Int)then(if x6<(((rd_T196 x102000 x5).f2).length:Int)then(if 0≤x6 then(if 0≤(rd ((rd_T196 x102000 x5).f2) x6)then(if(rd ((rd_T196 x102000 x5).f2) x6)<(x4.length:Int)then(spec_RxOk.l1 k x3 (x4.set ((rd ((rd_T196 x102000 x5).f2) x6):Int).toNat (wrap64 ((rd x4 (rd ((rd_T196 x102000 x5).f2) x6))+1))) x5 (wrap64 (x6+1)) x102000)else(none))else(none))else(none))else(spec_RxOk.l0 k x3 x4 (wrap64 (x5+1)) x102000))else(none))else(none)
def spec_RxOk.l2:Nat→Int→List Int→List Int→Int→List (S196)→Option (Bool)
 |0,_,_,_,_,_=>none
 |k+1,x3,x4,x7,x8,x102000=>if x8≥0 then(if x8<(wrap64 (x3-1))then(if 0≤x8 then(if x8<(x4.length:Int)then(if(rd x4 x8)=1 then(if x8<(x7.length:Int)then(spec_RxOk.j4 k x3 x4 x7 x8 (decide ((rd x7 x8)>150)) x102000)else(none))else(spec_RxOk.j4 k x3 x4 x7 x8 true x102000))else(none))else(none))else(if 0≤x8 then(if x8<(x7.length:Int)then(spec_RxOk.j4 k x3 x4 x7 x8 (decide ((rd x7 x8)>150)) x102000)else(none))else(none)))else(some true)
def spec_RxOk.j4:Nat→Int→List Int→List Int→Int→Bool→List (S196)→Option (Bool)
 |0,_,_,_,_,_,_=>none
 |k+1,x3,x4,x7,x8,x84,x102000=>if x84=true then(some false)else(spec_RxOk.l3 k x3 x4 x7 x8 0 x102000)
def spec_RxOk.l3:Nat→Int→List Int→List Int→Int→Int→List (S196)→Option (Bool)
 |0,_,_,_,_,_,_=>none
 |k+1,x3,x4,x7,x8,x9,x102000=>if 0≤x8 then(if x8<(x102000.length:Int)then(if x9<(((rd_T196 x102000 x8).f2).length:Int)then(if 0≤x9 then(if x8<(x7.length:Int)then(if 0≤(rd ((rd_T196 x102000 x8).f2) x9)then(if(rd ((rd_T196 x102000 x8).f2) x9)<(x7.length:Int)then(spec_RxOk.l3 k x3 x4 (x7.set ((rd ((rd_T196 x102000 x8).f2) x9):Int).toNat (wrap64 ((rd x7 x8)+1))) x8 (wrap64 (x9+1)) x102000)else(none))else(none))else(none))else(none))else(spec_RxOk.l2 k x3 x4 x7 (wrap64 (x8-1)) x102000))else(none))else(none)
end
def spec_RxOk.f(k:Nat)(l0_0:List (S196)):Option (Bool):=if(l0_0.length:Int)<1 then(spec_RxOk.j0 k (l0_0.length:Int) true l0_0)else(spec_RxOk.j0 k (l0_0.length:Int) (decide ((l0_0.length:Int)>300)) l0_0)
def spec_RxOk.T23:Bool × List (List Nat × List Nat):=(true,[([],[]),([],[]),([1],[1]),([],[]),([2,3],[2,3]),([4],[4]),([5],[5]),([],[]),([6,7],[6,7]),([8],[8]),([],[]),([],[]),([10,11],[10,11]),([12],[12]),([13],[13]),([0,9,0,1,2,3,4,5,6,7,8,9,10,11,12,13,14],[0,9]),([15,14,0,1,2,3,4,5,6,7,8,9,10,11,12,13,14],[14,15])])
def spec_RxOk.B23:List Nat:=[0,0,2,0,14,30,62,0,254,510,0,0,3072,7168,15360,32767,65535]
theorem spec_RxOk.tab23:rtab .any (opsOf Try.f133 23)=spec_RxOk.T23:=by kernel_rfl
theorem spec_RxOk.bits23:waitsOk spec_RxOk.T23.2 spec_RxOk.B23=true:=by kernel_rfl
theorem spec_RxOk.calls(k:Nat)(A0_0:Option Addr)(c0_0:Nat)(l0_0:List (S196))(r:Bool)(w:World)(hr0_0:Kd.C k196 w A0_0 l0_0.length l0_0)(hc0_0:l0_0.length≤c0_0)(h:spec_RxOk.f k l0_0=some r):
  Calls Try.prog 133 #[.agg #[.slice A0_0 l0_0.length c0_0]] w fun e w'=>e= .returned (.bool r)∧Below w.heap.size w w':=by
 have hu67:=Try.underlying67;have hu196:=Try.underlying196;have HR0_0:=q_ hr0_0;have HC0_0:=q_ hc0_0;clear hr0_0 hc0_0;have HB:=q_ (Below.refl w.heap.size w);have H:(if(l0_0.length:Int)<1 then(spec_RxOk.j0 k (l0_0.length:Int) true l0_0)else(spec_RxOk.j0 k (l0_0.length:Int) (decide ((l0_0.length:Int)>300)) l0_0))=some r:=h;clear h;have HC2:=q_ H;clear H;go_enter Try.func133,Try.ntmps133;go_upto_region 2 with(((with_reducible refine gate_dst (N:=1) rfl ?_);refine bx_ 1 #[.slice A0_0 l0_0.length c0_0] 67 ?_;intro gb101 hg w3 hbox hb;have BK101:=q_ (hbox);have GE101:=ge_ hg HB;replace HB:=sb_ HB hb;clear hb hbox hg;obtain⟨hcz4_0,hfz4_0⟩:=d1_ BK101))
 go_cut [18] (fun v18 wc=>∃(kq:Nat) (x18_1:Bool),v18= .bool x18_1∧J0 (spec_RxOk.j0 kq (l0_0.length:Int) x18_1 l0_0=some r)∧J0 (kq≤k)∧J0 (wc.heap[gb101]? =some (.cells #[(.slice A0_0 l0_0.length c0_0)] 67 (0,0)))∧J0 (Below w.heap.size w wc))
 case first=>
  have H:=HC2.o;clear HC2;by_cases c5:(l0_0.length:Int)<1
  ·rw[if_pos c5]at H;have c5b0:=dt_ c5;have c5b1:decide (l0_0.length<1)=true:=decide_eq_true (by omega);clear c5
   (skip)
   have H':=q_ H;clear H;go_wp2;go_meet
   case rel=>exact⟨_,(true),rs_,H',⟨by omega⟩,⟨bk_ BK101.o⟩,⟨be1_ HB.o GE101.o⟩⟩
  rw[if_neg c5]at H;have c5b0:=df_ c5;have c5b1:decide (l0_0.length<1)=false:=decide_eq_false (by omega);clear c5
  (skip)
  have H':=q_ H;clear H;go_wp2;go_meet
  case rel=>exact⟨_,(decide ((l0_0.length:Int)>300)),rs_,H',⟨by omega⟩,⟨bk_ BK101.o⟩,⟨be1_ HB.o GE101.o⟩⟩
 case rest =>
  clear HC2 hcz4_0 hfz4_0;obtain⟨kq,x18_1,rfl,HA,HJ1,BK101,HB⟩:=hcut;cases kq with
  |zero=>exact absurd HA.o (by simp[spec_RxOk.j0])
  | succ kj1=>
   have H:=HA.o;clear HA;simp only[spec_RxOk.j0]at H;by_cases c6:x18_1=true
   ·subst c6;rw[if_pos rfl]at H;obtain rfl:=Option.some.inj H;go_wp2
    go_ret
    exact⟨rt_,be1_ HB.o GE101.o⟩
   replace c6:=Bool.eq_false_iff.mpr c6;subst c6;rw[if_neg nft_]at H;obtain⟨c7,H⟩:=ip_ H;have c7b0:=eq_true c7;have c7b1:=dt_ c7;clear c7;obtain⟨c8,H⟩:=ip_ H;have c8b0:=eq_true c8;have c8b1:=dt_ c8;clear c8;generalize hy102:(List.replicate ((l0_0.length:Int):Int).toNat 0:List Int)=y102 at H;have Ny102:=q_ hy102.symm;clear hy102;have H':=q_ H;clear H
   go_wp2_with(((with_reducible refine gate_dst (N:=20) rfl ?_);refine Kd.R_make (Kd.int .i64) _ 3 rfl (N:=20) rfl 167 _ _ rfl (l0_0.length:Int) rfl rfl Try.underlying167 (.int .i64 0) 8 info3 rfl (by decide) (by omega) 0 (ok:=fun _=>True) (okp:=fun _=>True) rfl (fun _ hk=>hk) trivial (ot_ as_) (Nat.le_trans (Nat.mul_le_mul_right _ (ot_ as_:(l0_0.length:Int).toNat≤35184372088832)) (by omega)) (Below.refl _ _) (Nat.le_refl _) ?_;intro v103 w9 ho10 hb hg_ hnew_;clear hg_ hnew_;(rw[←Ny102.o]at ho10);have HO104:=q_ (Kd.R_lower ho10 (below_size (be1_ HB.o GE101.o)));replace BK101:=lb_ BK101 hb;replace HB:=sb1_ HB GE101 hb;clear hb ho10))
   go_loopg [5] kj1 (fun kq v5 w'=>∃(x4_2:List Int) (x5_2:Int),v5= .int .i64 x5_2∧J0 (spec_RxOk.l0 kq (l0_0.length:Int) x4_2 x5_2 l0_0=some r)∧J0 (kq≤kj1)∧J0 (Kd.R (Kd.int .i64) 3 w' w.heap.size (fun _=>True) v103 x4_2)∧J0 (w'.heap[gb101]? =some (.cells #[(.slice A0_0 l0_0.length c0_0)] 67 (0,0)))∧J0 (Below w.heap.size w w'))
   case atStart=>exact⟨(y102),(0),rs_,H',⟨Nat.le_refl _⟩,⟨ra_ HO104.o⟩,⟨bk_ BK101.o⟩,⟨be1_ HB.o GE101.o⟩⟩
   case round=>
    clear H';clear c7b0 c7b1 c8b0 c8b1;obtain⟨x4_2,x5_2,rfl,HA,HK2,HO_4,BK101,HB⟩:=hrel;cases gk with
    |zero=>exact absurd HA.o (by simp[spec_RxOk.l0])
    | succ k2=>
     have H:=HA.o;clear HA;simp only[spec_RxOk.l0]at H;by_cases c11:x5_2<(l0_0.length:Int)
     ·rw [if_pos c11]at H;have c11b0:=dt_ c11;clear c11;obtain⟨c12,H⟩:=ip_ H;have c12b0:=dt_ c12;clear c12;obtain⟨c13,H⟩:=ip_ H;have c13b0:=dt_ c13;clear c13;obtain⟨t106,A14,H⟩:=ob_ H;obtain⟨hcz16_0,hfz16_0⟩:=d1_ BK101;have p105:0≤(x5_2:Int):=ot_ as_;have q105:x5_2<(l0_0.length:Int):=ot_ as_;obtain⟨ad105,A105_1,c105_1,A105_2,c105_2,e105,hx105_0,hx105_1,hx105_2,hx105_3,hx105_4,hl105_1,hi105_1,hl105_2,hi105_2⟩:=at_T196 HR0_0.o x5_2 p105 q105;cases e105;replace hx105_0:=mv_ HB.o hx105_0;replace hx105_1:=mv_ HB.o hx105_1;replace hx105_2:=mv_ HB.o hx105_2;replace hx105_3:=mv_ HB.o hx105_3;replace hx105_4:=mv_ HB.o hx105_4;have HR105_1:=q_ hi105_1;have HC105_1:=q_ hl105_1;have HR105_2:=q_ hi105_2;have HC105_2:=q_ hl105_2;replace p105:=eq_true p105;replace q105:=eq_true q105;by_cases c15:t106=true;rotate_left
      ·replace c15:=Bool.eq_false_iff.mpr c15;subst c15;rw[if_neg nft_]at H;obtain rfl:=Option.some.inj H;clear hi105_1 hl105_1;clear hi105_2 hl105_2
       go_wp2_with(((with_reducible refine gate_callee (f:=143) rfl ?_);refine gl_ (some 32) rfl rfl Try.func143 #[.agg #[.int .i64 ((rd_T196 l0_0 x5_2).f0), .slice A105_1 ((rd_T196 l0_0 x5_2).f1).length c105_1, .slice A105_2 ((rd_T196 l0_0 x5_2).f2).length c105_2, .int .i64 ((rd_T196 l0_0 x5_2).f3), .int .i64 ((rd_T196 l0_0 x5_2).f4)], .int .i64 x5_2] ?_;(with_reducible refine(spec_l3Node.calls k2 ((rd_T196 l0_0 x5_2).f0) _ _ ((rd_T196 l0_0 x5_2).f1) _ _ ((rd_T196 l0_0 x5_2).f2) ((rd_T196 l0_0 x5_2).f3) ((rd_T196 l0_0 x5_2).f4) x5_2 false _ ?side1 ?side2 ?side3 ?side4 A14.o).mono ?_);(case side1=>exact Kd.C_below HR105_1.o (be_ HB.o));(case side2=>exact HC105_1.o);(case side3=>exact Kd.C_below HR105_2.o (be_ HB.o));(case side4=>exact HC105_2.o);rintro e w31 ⟨rfl,hb⟩;refine⟨_,rfl,?_⟩;replace HO_4:=bR_ HO_4 hb;replace BK101:=lb_ BK101 hb;replace HB:=sb1_ HB GE101 hb;clear hb))
       go_ret
       exact⟨rt_,be1_ HB.o GE101.o⟩
      subst c15;rw[if_pos rfl]at H;have H':=q_ H;clear H;clear hi105_1 hl105_1;clear hi105_2 hl105_2
      go_wp2_with(((with_reducible refine gate_callee (f:=143) rfl ?_);refine gl_ (some 32) rfl rfl Try.func143 #[.agg #[.int .i64 ((rd_T196 l0_0 x5_2).f0), .slice A105_1 ((rd_T196 l0_0 x5_2).f1).length c105_1, .slice A105_2 ((rd_T196 l0_0 x5_2).f2).length c105_2, .int .i64 ((rd_T196 l0_0 x5_2).f3), .int .i64 ((rd_T196 l0_0 x5_2).f4)], .int .i64 x5_2] ?_;(with_reducible refine(spec_l3Node.calls k2 ((rd_T196 l0_0 x5_2).f0) _ _ ((rd_T196 l0_0 x5_2).f1) _ _ ((rd_T196 l0_0 x5_2).f2) ((rd_T196 l0_0 x5_2).f3) ((rd_T196 l0_0 x5_2).f4) x5_2 true _ ?side1 ?side2 ?side3 ?side4 A14.o).mono ?_);(case side1=>exact Kd.C_below HR105_1.o (be_ HB.o));(case side2=>exact HC105_1.o);(case side3=>exact Kd.C_below HR105_2.o (be_ HB.o));(case side4=>exact HC105_2.o);rintro e w17 ⟨rfl,hb⟩;refine⟨_,rfl,?_⟩;replace HO_4:=bR_ HO_4 hb;replace BK101:=lb_ BK101 hb;replace HB:=sb1_ HB GE101 hb;clear hb))
      go_loopg [6] k2 (fun kq v6 w'=>∃(x4_3:List Int) (x6_3:Int),v6= .int .i64 x6_3∧J0 (spec_RxOk.l1 kq (l0_0.length:Int) x4_3 x5_2 x6_3 l0_0=some r)∧J0 (kq≤k2)∧J0 (Kd.R (Kd.int .i64) 3 w' w.heap.size (fun _=>True) v103 x4_3)∧J0 (w'.heap[gb101]? =some (.cells #[(.slice (some ad105) l0_0.length c0_0)] 67 (0,0)))∧J0 (Below w.heap.size w w'))
      case atStart=>exact⟨(x4_2),(0),rs_,H',⟨Nat.le_refl _⟩,⟨ra_ HO_4.o⟩,⟨bk_ BK101.o⟩,⟨be1_ HB.o GE101.o⟩⟩
      case round=>
       clear H';clear c11b0 c12b0 c13b0 hcz16_0 hfz16_0 hx105_0 hx105_1 hx105_2 hx105_3 hx105_4 p105 q105;obtain⟨x4_3,x6_3,rfl,HA,HK3,HO_4,BK101,HB⟩:=hrel;cases gk with
       |zero=>exact absurd HA.o (by simp[spec_RxOk.l1])
       | succ k3=>
        have H:=HA.o;clear HA;simp only[spec_RxOk.l1]at H;obtain⟨c18,H⟩:=ip_ H;have c18b0:=dt_ c18;clear c18;obtain⟨c19,H⟩:=ip_ H;have c19b0:=dt_ c19;clear c19;obtain⟨hcz25_0,hfz25_0⟩:=d1_ BK101;have p107:0≤(x5_2:Int):=ot_ as_;have q107:x5_2<(l0_0.length:Int):=ot_ as_;obtain⟨ad107,A107_1,c107_1,A107_2,c107_2,e107,hx107_0,hx107_1,hx107_2,hx107_3,hx107_4,hl107_1,hi107_1,hl107_2,hi107_2⟩:=at_T196 HR0_0.o x5_2 p107 q107;obtain rfl:ad105=ad107:=(by injection e107);replace hx107_0:=mv_ HB.o hx107_0;replace hx107_1:=mv_ HB.o hx107_1;replace hx107_2:=mv_ HB.o hx107_2;replace hx107_3:=mv_ HB.o hx107_3;replace hx107_4:=mv_ HB.o hx107_4;have HR107_1:=q_ hi107_1;have HC107_1:=q_ hl107_1;have HR107_2:=q_ hi107_2;have HC107_2:=q_ hl107_2;replace p107:=eq_true p107;replace q107:=eq_true q107;by_cases c20:x6_3<(((rd_T196 l0_0 x5_2).f2).length:Int);rotate_left
        ·rw[if_neg c20]at H;have c20b0:=df_ c20;clear c20;have H':=q_ H;clear H;clear hi107_1 hl107_1;clear hi107_2 hl107_2;go_wp2
         go_roundg k3
         case measure=>have:=HJ1.o;have:=HK2.o;have:=HK3.o;omega
         case rel=>exact⟨(x4_3),(wrap64 (x5_2+1)),rs_,H',⟨by have:=HJ1.o;have:=HK2.o;have:=HK3.o;omega⟩,⟨ra_ HO_4.o⟩,⟨bk_ BK101.o⟩,⟨be1_ HB.o GE101.o⟩⟩
        rw[if_pos c20]at H;have c20b0:=dt_ c20;clear c20;obtain⟨c21,H⟩:=ip_ H;have c21b0:=dt_ c21;clear c21;obtain⟨c22,H⟩:=ip_ H;have c22b0:=dt_ c22;clear c22;obtain⟨c23,H⟩:=ip_ H;have c23b0:=dt_ c23;clear c23;generalize hy111:(x4_3.set ((rd ((rd_T196 l0_0 x5_2).f2) x6_3):Int).toNat (wrap64 ((rd x4_3 (rd ((rd_T196 l0_0 x5_2).f2) x6_3))+1)):List Int)=y111 at H;have Ny111:=q_ hy111.symm;clear hy111;have H':=q_ H;clear H;clear hi107_1 hl107_1;clear hi107_2 hl107_2;have p109:0≤(x6_3:Int):=ot_ as_;have q109:x6_3<(((rd_T196 l0_0 x5_2).f2).length:Int):=ot_ as_;obtain⟨ad109,e109,hx109_0⟩:=Kd.at_int HR107_2.o x6_3 p109 q109;cases e109;replace hx109_0:=mv_ HB.o hx109_0;replace p109:=eq_true p109;replace q109:=eq_true q109;obtain⟨Ao26,co26,eo26⟩:=Kd.R_slice HO_4.o;subst eo26;have p110:0≤((rd ((rd_T196 l0_0 x5_2).f2) x6_3):Int):=ot_ as_;have q110:(rd ((rd_T196 l0_0 x5_2).f2) x6_3)<(x4_3.length:Int):=ot_ as_;obtain⟨ad110,e110,hx110_0⟩:=Kd.at_int (Kd.R_reads' HO_4.o).2.2 (rd ((rd_T196 l0_0 x5_2).f2) x6_3) p110 q110;cases e110;replace p110:=eq_true p110;replace q110:=eq_true q110;have p24:0≤((rd ((rd_T196 l0_0 x5_2).f2) x6_3):Int):=ot_ as_;have q24:((rd ((rd_T196 l0_0 x5_2).f2) x6_3):Int)<((x4_3.length:Int):Int):=ot_ as_;obtain⟨go24,co24,eo24,gb24,gl24,cl24,HG24⟩:=Kd.R_form HO_4.o (by omega);(cases eo24);have GB24:=q_ gb24;have GG24:=q_ HG24;clear gb24 gl24 HG24
        (simp only[add_plain]at hx110_0)
        obtain⟨hx24_0,hf24_0⟩:=Kd.R_celln 0 HO_4.o ((rd ((rd_T196 l0_0 x5_2).f2) x6_3):Int) p24 q24;replace p24:=eq_true p24;replace q24:=eq_true q24;have HP27:=Kd.R_putg HO_4.o ((rd ((rd_T196 l0_0 x5_2).f2) x6_3):Int) (wrap64 ((rd x4_3 (rd ((rd_T196 l0_0 x5_2).f2) x6_3))+1))
        go_wp2_with(((with_reducible refine gate_store (t:=3) (p:=58) rfl ?_);refine store_event (t:=3) (p:=58) (v:=?vo_w28) (w1:=(wr.setCell ⟨go24,((rd ((rd_T196 l0_0 x5_2).f2) x6_3):Int).toNat,none⟩ (.int .i64 (wrap64 ((rd x4_3 (rd ((rd_T196 l0_0 x5_2).f2) x6_3))+1))))) ?hg ?ho ?hn ?hr ?_;(case ho=>rfl);(case hg=>rfl);(case hn=>rfl);(case hr=>first| (go_simp;done)| (go_simp;rfl));intro w28 hw;have hg:wr.grownBy w28 (some go24):=(by rw[hw];exact HP27.2);have hp_:Kd.R (Kd.int .i64) 3 w28 w.heap.size (fun _=>True) (.slice (some ⟨go24,0,none⟩) x4_3.length co26) y111:=(by rw[hw,Ny111.o];exact HP27.1);clear HP27;replace BK101:=bg_ BK101 hg (Kd.R_ne HO_4.o BK101.o (by decide));replace HO_4:=q_ (hp_);replace HB:=q_ ((by rw[hw];exact below_set (HB.o) GB24.out:Below w.heap.size w w28));clear hg hw hp_))
        go_roundg k3
        case measure=>have:=HJ1.o;have:=HK2.o;have:=HK3.o;omega
        case rel=>exact⟨(y111),(wrap64 (x6_3+1)),rs_,H',⟨by have:=HJ1.o;have:=HK2.o;have:=HK3.o;omega⟩,⟨ra_ HO_4.o⟩,⟨bk_ BK101.o⟩,⟨be1_ HB.o GE101.o⟩⟩
     rw[if_neg c11]at H;have c11b0:=df_ c11;clear c11;obtain⟨c32,H⟩:=ip_ H;have c32b0:=eq_true c32;have c32b1:=dt_ c32;clear c32;obtain⟨c33,H⟩:=ip_ H;have c33b0:=eq_true c33;have c33b1:=dt_ c33;clear c33;generalize hy112:(List.replicate ((l0_0.length:Int):Int).toNat 0:List Int)=y112 at H;have Ny112:=q_ hy112.symm;clear hy112;have H':=q_ H;clear H
     go_wp2_with(((with_reducible refine gate_dst (N:=60) rfl ?_);refine Kd.R_make (Kd.int .i64) _ 3 rfl (N:=60) rfl 167 _ _ rfl (l0_0.length:Int) rfl rfl Try.underlying167 (.int .i64 0) 8 info3 rfl (by decide) (by omega) 0 (ok:=fun _=>True) (okp:=fun _=>True) rfl (fun _ hk=>hk) trivial (ot_ as_) (Nat.le_trans (Nat.mul_le_mul_right _ (ot_ as_:(l0_0.length:Int).toNat≤35184372088832)) (by omega)) (Below.refl _ _) (Nat.le_refl _) ?_;intro v113 w34 ho35 hb hg_ hnew_;clear hg_ hnew_;(rw[←Ny112.o]at ho35);have HO114:=q_ (Kd.R_lower (Kd.R_new' ho35 (Kd.R_lt (ra_ HO_4.o))) (below_size (be1_ HB.o GE101.o)));replace HO_4:=eR_ HO_4 (Kd.R_base ho35) hb;replace BK101:=lb_ BK101 hb;replace HB:=sb1_ HB GE101 hb;clear hb ho35))
     go_loopg [8] k2 (fun kq v8 w'=>∃(x7_3:List Int) (x8_3:Int),v8= .int .i64 x8_3∧J0 (spec_RxOk.l2 kq (l0_0.length:Int) x4_2 x7_3 x8_3 l0_0=some r)∧J0 (kq≤k2)∧J0 (Kd.R (Kd.int .i64) 3 w' w.heap.size (fun k_=>some k_≠(v113:Value).ownBlock) v103 x4_2)∧J0 (Kd.R (Kd.int .i64) 3 w' w.heap.size (fun k_=>some k_≠(v103:Value).ownBlock) v113 x7_3)∧J0 (w'.heap[gb101]? =some (.cells #[(.slice A0_0 l0_0.length c0_0)] 67 (0,0)))∧J0 (Below w.heap.size w w'))
     case atStart=>exact⟨(y112),(wrap64 ((l0_0.length:Int)-1)),rs_,H',⟨Nat.le_refl _⟩,⟨mR_ HO_4 (fun _ hk=>hk.2)⟩,⟨mR_ HO114 (fun _ hk=>hk.2)⟩,⟨bk_ BK101.o⟩,⟨be1_ HB.o GE101.o⟩⟩
     case round=>
      clear H';clear c11b0 c32b0 c32b1 c33b0 c33b1;obtain⟨x7_3,x8_3,rfl,HA,HK3,HO_4,HO_7,BK101,HB⟩:=hrel;cases gk with
      |zero=>exact absurd HA.o (by simp[spec_RxOk.l2])
      | succ k3=>
       have H:=HA.o;clear HA;simp only[spec_RxOk.l2]at H;by_cases c36:x8_3≥0;rotate_left
       ·rw[if_neg c36]at H;have c36b0:decide (0≤x8_3)=false:=df_ c36;clear c36;obtain rfl:=Option.some.inj H;go_wp2
        go_ret
        exact⟨rt_,be1_ HB.o GE101.o⟩
       rw[if_pos c36]at H;have c36b0:decide (0≤x8_3)=true:=dt_ c36;clear c36;have HC37:=q_ H;clear H;go_upto_region 18 with(fail)
       go_cut [84] (fun v84 wc=>∃(kq:Nat) (x84_36:Bool),v84= .bool x84_36∧J0 (spec_RxOk.j4 kq (l0_0.length:Int) x4_2 x7_3 x8_3 x84_36 l0_0=some r)∧J0 (kq≤k3)∧J0 (Kd.R (Kd.int .i64) 3 wc w.heap.size (fun k_=>some k_≠(v113:Value).ownBlock) v103 x4_2)∧J0 (Kd.R (Kd.int .i64) 3 wc w.heap.size (fun k_=>some k_≠(v103:Value).ownBlock) v113 x7_3)∧J0 (wc.heap[gb101]? =some (.cells #[(.slice A0_0 l0_0.length c0_0)] 67 (0,0)))∧J0 (Below w.heap.size w wc))
       case first=>
        have H:=HC37.o;clear HC37;by_cases c38:x8_3<(wrap64 ((l0_0.length:Int)-1));rotate_left
        ·rw[if_neg c38]at H;have c38b0:=df_ c38;clear c38
         (skip)
         obtain⟨c46,H⟩:=ip_ H;have c46b0:=dt_ c46;clear c46;obtain⟨c47,H⟩:=ip_ H;have c47b0:=dt_ c47;clear c47;have H':=q_ H;clear H;obtain⟨Ao48,co48,eo48⟩:=Kd.R_slice HO_7.o;subst eo48;have p117:0≤(x8_3:Int):=ot_ as_;have q117:x8_3<(x7_3.length:Int):=ot_ as_;obtain⟨ad117,e117,hx117_0⟩:=Kd.at_int (Kd.R_reads' HO_7.o).2.2 x8_3 p117 q117;cases e117;replace p117:=eq_true p117;replace q117:=eq_true q117;go_wp2;go_meet
         case rel=>exact⟨_,(decide ((rd x7_3 x8_3)>150)),rs_,H',⟨by have:=HJ1.o;have:=HK2.o;have:=HK3.o;first|omega|exact Nat.le_refl _⟩,⟨ra_ HO_4.o⟩,⟨ra_ HO_7.o⟩,⟨bk_ BK101.o⟩,⟨be1_ HB.o GE101.o⟩⟩
        rw[if_pos c38]at H;have c38b0:=dt_ c38;clear c38
        (skip)
        obtain⟨c39,H⟩:=ip_ H;have c39b0:=dt_ c39;clear c39;obtain⟨c40,H⟩:=ip_ H;have c40b0:=dt_ c40;clear c40;by_cases c41:(rd x4_2 x8_3)=1;rotate_left
        ·rw[if_neg c41]at H;have c41b0:((rd x4_2 x8_3)==1)=false:=beq_eq_false_iff_ne.mpr c41;have c41b1:((rd x4_2 x8_3) != 1)=true:=bne_iff_ne.mpr c41;have H':=q_ H;clear H;obtain⟨Ao45,co45,eo45⟩:=Kd.R_slice HO_4.o;subst eo45;have p115:0≤(x8_3:Int):=ot_ as_;have q115:x8_3<(x4_2.length:Int):=ot_ as_;obtain⟨ad115,e115,hx115_0⟩:=Kd.at_int (Kd.R_reads' HO_4.o).2.2 x8_3 p115 q115;cases e115;replace p115:=eq_true p115;replace q115:=eq_true q115;go_wp2
         go_meet
         case rel=>exact⟨_,(true),rs_,H',⟨by have:=HJ1.o;have:=HK2.o;have:=HK3.o;first|omega|exact Nat.le_refl _⟩,⟨ra_ HO_4.o⟩,⟨ra_ HO_7.o⟩,⟨bk_ BK101.o⟩,⟨be1_ HB.o GE101.o⟩⟩
        rw[if_pos c41]at H;have c41b0:((rd x4_2 x8_3)==1)=true:=beq_iff_eq.mpr c41;have c41b1:((rd x4_2 x8_3) != 1)=false:=bne_eq_false_iff_eq.mpr c41;clear c41;obtain⟨c42,H⟩:=ip_ H;have c42b0:=dt_ c42;clear c42;have H':=q_ H;clear H;obtain⟨Ao43,co43,eo43⟩:=Kd.R_slice HO_4.o;subst eo43;have p115:0≤(x8_3:Int):=ot_ as_;have q115:x8_3<(x4_2.length:Int):=ot_ as_;obtain⟨ad115,e115,hx115_0⟩:=Kd.at_int (Kd.R_reads' HO_4.o).2.2 x8_3 p115 q115;cases e115;replace p115:=eq_true p115;replace q115:=eq_true q115;obtain⟨Ao44,co44,eo44⟩:=Kd.R_slice HO_7.o;subst eo44;have p116:0≤(x8_3:Int):=ot_ as_;have q116:x8_3<(x7_3.length:Int):=ot_ as_;obtain⟨ad116,e116,hx116_0⟩:=Kd.at_int (Kd.R_reads' HO_7.o).2.2 x8_3 p116 q116;cases e116;replace p116:=eq_true p116;replace q116:=eq_true q116;go_wp2;go_meet
        case rel=>exact⟨_,(decide ((rd x7_3 x8_3)>150)),rs_,H',⟨by have:=HJ1.o;have:=HK2.o;have:=HK3.o;first|omega|exact Nat.le_refl _⟩,⟨ra_ HO_4.o⟩,⟨ra_ HO_7.o⟩,⟨bk_ BK101.o⟩,⟨be1_ HB.o GE101.o⟩⟩
       case rest=>
        clear HC37 c36b0;obtain⟨kq,x84_36,rfl,HA,HJ36,HO_4,HO_7,BK101,HB⟩:=hcut;cases kq with
        |zero=>exact absurd HA.o (by simp[spec_RxOk.j4])
        | succ kj36=>
         have H:=HA.o;clear HA;simp only[spec_RxOk.j4]at H;by_cases c49:x84_36=true
         ·subst c49;rw[if_pos rfl]at H;obtain rfl:=Option.some.inj H;go_wp2
          go_ret
          exact⟨rt_,be1_ HB.o GE101.o⟩
         replace c49:=Bool.eq_false_iff.mpr c49;subst c49;rw[if_neg nft_]at H;have H':=q_ H;clear H;go_wp2
         go_loopg [9] kj36 (fun kq v9 w'=>∃(x7_5:List Int) (x9_5:Int),v9= .int .i64 x9_5∧J0 (spec_RxOk.l3 kq (l0_0.length:Int) x4_2 x7_5 x8_3 x9_5 l0_0=some r)∧J0 (kq≤kj36)∧J0 (Kd.R (Kd.int .i64) 3 w' w.heap.size (fun k_=>some k_≠(v113:Value).ownBlock) v103 x4_2)∧J0 (Kd.R (Kd.int .i64) 3 w' w.heap.size (fun k_=>some k_≠(v103:Value).ownBlock) v113 x7_5)∧J0 (w'.heap[gb101]? =some (.cells #[(.slice A0_0 l0_0.length c0_0)] 67 (0,0)))∧J0 (Below w.heap.size w w'))
         case atStart=>exact⟨(x7_3),(0),rs_,H',⟨Nat.le_refl _⟩,⟨ra_ HO_4.o⟩,⟨ra_ HO_7.o⟩,⟨bk_ BK101.o⟩,⟨be1_ HB.o GE101.o⟩⟩
         case round=>
          clear H';obtain⟨x7_5,x9_5,rfl,HA,HK5,HO_4,HO_7,BK101,HB⟩:=hrel;cases gk with
          |zero=>exact absurd HA.o (by simp[spec_RxOk.l3])
          | succ k5=>
           have H:=HA.o;clear HA;simp only[spec_RxOk.l3]at H;obtain⟨c50,H⟩:=ip_ H;have c50b0:=dt_ c50;clear c50;obtain⟨c51,H⟩:=ip_ H;have c51b0:=dt_ c51;clear c51;obtain⟨hcz58_0,hfz58_0⟩:=d1_ BK101;have p118:0≤(x8_3:Int):=ot_ as_;have q118:x8_3<(l0_0.length:Int):=ot_ as_;obtain⟨ad118,A118_1,c118_1,A118_2,c118_2,e118,hx118_0,hx118_1,hx118_2,hx118_3,hx118_4,hl118_1,hi118_1,hl118_2,hi118_2⟩:=at_T196 HR0_0.o x8_3 p118 q118;cases e118;replace hx118_0:=mv_ HB.o hx118_0;replace hx118_1:=mv_ HB.o hx118_1;replace hx118_2:=mv_ HB.o hx118_2;replace hx118_3:=mv_ HB.o hx118_3;replace hx118_4:=mv_ HB.o hx118_4;have HR118_1:=q_ hi118_1;have HC118_1:=q_ hl118_1;have HR118_2:=q_ hi118_2;have HC118_2:=q_ hl118_2;replace p118:=eq_true p118;replace q118:=eq_true q118;by_cases c52:x9_5<(((rd_T196 l0_0 x8_3).f2).length:Int);rotate_left
           ·rw[if_neg c52]at H;have c52b0:=df_ c52;clear c52;have H':=q_ H;clear H;clear hi118_1 hl118_1;clear hi118_2 hl118_2;go_wp2
            go_roundg k5
            case measure=>have:=HJ1.o;have:=HK2.o;have:=HK3.o;have:=HJ36.o;have:=HK5.o;omega
            case rel=>exact⟨(x7_5),(wrap64 (x8_3-1)),rs_,H',⟨by have:=HJ1.o;have:=HK2.o;have:=HK3.o;have:=HJ36.o;have:=HK5.o;omega⟩,⟨ra_ HO_4.o⟩,⟨ra_ HO_7.o⟩,⟨bk_ BK101.o⟩,⟨be1_ HB.o GE101.o⟩⟩
           rw[if_pos c52]at H;have c52b0:=dt_ c52;clear c52;obtain⟨c53,H⟩:=ip_ H;have c53b0:=dt_ c53;clear c53;obtain⟨c54,H⟩:=ip_ H;have c54b0:=dt_ c54;clear c54;obtain⟨c55,H⟩:=ip_ H;have c55b0:=dt_ c55;clear c55;obtain⟨c56,H⟩:=ip_ H;have c56b0:=dt_ c56;clear c56;generalize hy122:(x7_5.set ((rd ((rd_T196 l0_0 x8_3).f2) x9_5):Int).toNat (wrap64 ((rd x7_5 x8_3)+1)):List Int)=y122 at H;have Ny122:=q_ hy122.symm;clear hy122;have H':=q_ H;clear H;clear hi118_1 hl118_1;clear hi118_2 hl118_2
           try go_wp2
           replace HO_4:=q_ (Kd.R_drew HO_4.o);replace HO_7:=q_ (Kd.R_drew HO_7.o);replace BK101:=q_ (blk_drew BK101.o);replace HB:=q_ (below_drew1 HB.o);have p119:0≤(x8_3:Int):=ot_ as_;have q119:x8_3<(l0_0.length:Int):=ot_ as_;obtain⟨ad119,A119_1,c119_1,A119_2,c119_2,e119,hx119_0,hx119_1,hx119_2,hx119_3,hx119_4,hl119_1,hi119_1,hl119_2,hi119_2⟩:=at_T196 HR0_0.o x8_3 p119 q119;have hw119_4:=hx119_4;have hw119_3:=hx119_3;have hw119_2:=hx119_2;have hw119_1:=hx119_1;have hw119_0:=hx119_0;obtain rfl:ad118=ad119:=(by injection e119);replace hx119_0:=mv_ HB.o hx119_0;replace hx119_1:=mv_ HB.o hx119_1;replace hx119_2:=mv_ HB.o hx119_2;replace hx119_3:=mv_ HB.o hx119_3;replace hx119_4:=mv_ HB.o hx119_4;have HR119_1:=q_ hi119_1;have HC119_1:=q_ hl119_1;clear hi119_1 hl119_1;have HR119_2:=q_ hi119_2;have HC119_2:=q_ hl119_2;clear hi119_2 hl119_2;replace p119:=eq_true p119;replace q119:=eq_true q119;have p120:0≤(x9_5:Int):=ot_ as_;have q120:x9_5<(((rd_T196 l0_0 x8_3).f2).length:Int):=ot_ as_;obtain⟨ad120,e120,hx120_0⟩:=Kd.at_int HR119_2.o x9_5 p120 q120;have hw120_0:=hx120_0;cases e120;replace hx120_0:=mv_ HB.o hx120_0;replace p120:=eq_true p120;replace q120:=eq_true q120;obtain⟨Ao60,co60,eo60⟩:=Kd.R_slice HO_7.o
           (subst eo60)
           have p121:0≤(x8_3:Int):=ot_ as_;have q121:x8_3<(x7_5.length:Int):=ot_ as_;obtain⟨ad121,e121,hx121_0⟩:=Kd.at_int (Kd.R_reads' HO_7.o).2.2 x8_3 p121 q121;cases e121;replace p121:=eq_true p121;replace q121:=eq_true q121;have p57:0≤((rd ((rd_T196 l0_0 x8_3).f2) x9_5):Int):=ot_ as_;have q57:((rd ((rd_T196 l0_0 x8_3).f2) x9_5):Int)<((x7_5.length:Int):Int):=ot_ as_;obtain⟨go57,co57,eo57,gb57,gl57,cl57,HG57⟩:=Kd.R_form HO_7.o (by omega);(cases eo57);have GB57:=q_ gb57;have GG57:=q_ HG57;clear gb57 gl57 HG57
           (simp only[add_plain]at hx121_0)
           obtain⟨hx57_0,hf57_0⟩:=Kd.R_celln 0 HO_7.o ((rd ((rd_T196 l0_0 x8_3).f2) x9_5):Int) p57 q57;replace p57:=eq_true p57;replace q57:=eq_true q57;have HP61:=Kd.R_putn HO_7.o ((rd ((rd_T196 l0_0 x8_3).f2) x9_5):Int) (wrap64 ((rd x7_5 x8_3)+1));rw[←Ny122.o]at HP61;have HQ61:=q_ HP61;clear HP61;refine start_ (n:=17) (S:=fun w'=>w'.cell? ⟨gb101,0,none⟩=some (.slice (some ad118) l0_0.length c0_0)∧w'.cell? (ad118.add ((x8_3).toNat*5))=some (.int .i64 ((rd_T196 l0_0 x8_3).f0))∧w'.cell? ⟨(ad118.add ((x8_3).toNat*5)).block,(ad118.add ((x8_3).toNat*5)).off+1,none⟩=some (.slice A119_1 ((rd_T196 l0_0 x8_3).f1).length c119_1)∧w'.cell? ⟨(ad118.add ((x8_3).toNat*5)).block,(ad118.add ((x8_3).toNat*5)).off+2,none⟩=some (.slice (some ad120) ((rd_T196 l0_0 x8_3).f2).length c119_2)∧w'.cell? ⟨(ad118.add ((x8_3).toNat*5)).block,(ad118.add ((x8_3).toNat*5)).off+3,none⟩=some (.int .i64 ((rd_T196 l0_0 x8_3).f3))∧w'.cell? ⟨(ad118.add ((x8_3).toNat*5)).block,(ad118.add ((x8_3).toNat*5)).off+4,none⟩=some (.int .i64 ((rd_T196 l0_0 x8_3).f4))∧w'.cell? (ad120.add (x9_5).toNat)=some (.int .i64 (rd ((rd_T196 l0_0 x8_3).f2) x9_5))∧w'.cell? ⟨go57,(x8_3).toNat,none⟩=some (.int .i64 (rd x7_5 x8_3))) (ds:=[16]) (bb 17 0) (by kernel_rfl) rfl rfl ⟨(blk_cell BK101.o 0).trans rfl,(mv_ HB.o hw119_0),(mv_ HB.o hw119_1),(mv_ HB.o hw119_2),(mv_ HB.o hw119_3),(mv_ HB.o hw119_4),(mv_ HB.o hw120_0),hx121_0⟩ (fun hHeld=>?_);refine with_tabW spec_RxOk.tab23 spec_RxOk.bits23 (fun HT_ HW_=>?_);generalize wr.drew=w59 at HO_4 HO_7 BK101 HB GG57 HQ61 HR119_1 HR119_2 hf57_0 hx119_0 hx119_1 hx119_2 hx119_3 hx119_4 hx120_0 hx121_0 hx57_0 hHeld ⊢;refine pv_ 0 96 1 HT_.o ?_;refine pv_ 1 97 3 HT_.o ?_;refine pv_ 3 99 11 HT_.o ?_;refine pv_ 7 103 139 HT_.o ?_;refine pv_ 10 106 1163 HT_.o ?_;refine pv_ 11 107 3211 HT_.o ?_;refine pv_ 12 108 7307 HT_.o ?_;refine tv_ 2 98 7311 HT_.o HW_.o hHeld ?_;refine pv_ 4 100 7327 HT_.o ?_;refine pv_ 5 101 7359 HT_.o ?_;refine tv_ 6 102 7423 HT_.o HW_.o hHeld ?_;refine pv_ 8 104 7679 HT_.o ?_;refine tv_ 9 105 8191 HT_.o HW_.o hHeld ?_;refine tv_ 13 109 16383 HT_.o HW_.o hHeld ?_;refine pv_ 14 110 32767 HT_.o ?_;refine pv_ 15 111 65535 HT_.o ?_;refine last_ (i:=16) (N:=none) (bb 17 131071) rfl rfl (one_of HT_.o (by kernel_rfl)) (by decide) (fun K hK=>?_);refine skip_ (w1:=?_) (by rfl) rfl ?_ ?_;rotate_left
           ·go_simp
            rfl
           refine hK.out _ _ ?_;clear hK K;refine done_ (done_of HT_.o (by kernel_rfl)) ?_
           try go_wp2
           go_roundg k5
           case measure=>have:=HJ1.o;have:=HK2.o;have:=HK3.o;have:=HJ36.o;have:=HK5.o;omega
           case rel=>exact⟨(y122),(wrap64 (x9_5+1)),rs_,H',⟨by have:=HJ1.o;have:=HK2.o;have:=HK3.o;have:=HJ36.o;have:=HK5.o;omega⟩,⟨Kd.R_mono (rfR_ (Kd.R_mono HO_4.o (fun k_ hk=>(⟨hk,fun e_=>hk (by rw[e_];rfl)⟩:_∧k_≠go57)))) (fun _ hk=>hk.1)⟩,⟨ra_ HQ61.o⟩,⟨by(with_reducible repeat(first|refine blk_drewN ?_ _|refine blk_drew ?_|refine blk_alloc ?_ _));refine blk_far ?_ (by have h_:=Kd.R_ne HO_7.o BK101.o (by decide);intro e_;exact h_ (by rw[e_];rfl)) _;(with_reducible repeat(first|refine blk_drewN ?_ _|refine blk_drew ?_|refine blk_alloc ?_ _));exact BK101.o⟩,⟨be2_ HB.o GB57.o GE101.o⟩⟩
end Go.Proofs.Ytlecpdpdcocibaa.P
namespace Go.Proofs.YtlecpdpdcocibaaEv
open Go.RowKit Go.Proofs.YtlecpdpdcocibaaW.PrintWords
set_option linter.unusedVariables false
set_option linter.unusedSimpArgs false
theorem ev_ite{α:Type}{c:Prop}[Decidable c]{a b:Nat→Option α}{r:α}:Ev (fun k=>if c then a k else b k) r↔(if c then Ev a r else Ev b r):=by
 by_cases h:c<;>simp[h]
theorem ev_some{α:Type}{a r:α}:Ev (fun _=>some a) r↔a=r:=by
 constructor
 ·rintro⟨K,h⟩
  exact Option.some.inj (h K (Nat.le_refl _))
 ·rintro rfl
  exact⟨0,fun _ _=>rfl⟩
theorem ev_succ{α:Type}{g:Nat→Option α}{r:α}:Ev g r↔Ev (fun k=>g (k+1)) r:=by
 constructor
 ·rintro⟨K,h⟩
  exact⟨K,fun k hk=>h (k+1) (by omega)⟩
 ·rintro⟨K,h⟩
  refine⟨K+1,fun k hk=>?_⟩;obtain⟨m,rfl⟩:∃m,k=m+1:=⟨k-1,by omega⟩;exact h m (by omega)
theorem ev_bind{α β:Type}{g:Nat→Option α}{f:Nat→α→Option β}{a:α}{r:β}(h:Ev g a):Ev (fun k=>(g k).bind (f k)) r↔Ev (fun k=>f k a) r:=by
 obtain⟨K,hK⟩:=h;constructor
 ·rintro⟨M,hM⟩
  refine⟨max K M,fun k hk=>?_⟩;have h1:(g k).bind (f k)=some r:=hM k (by omega);rw[hK k (by omega)]at h1;exact h1
 ·rintro⟨M,hM⟩
  refine⟨max K M,fun k hk=>?_⟩;show(g k).bind (f k)=some r
  rw[hK k (by omega)];exact hM k (by omega)
theorem ev_bind_some{α β:Type}{f:Nat→α→Option β}{a:α}{r:β}:Ev (fun k=>(some a).bind (f k)) r↔Ev (fun k=>f k a) r:=Iff.rfl
theorem ev_get{α:Type}{g:Nat→Option α}{r:α}(h:Ev g r):∃k,g k=some r:=by
 obtain⟨K,h⟩:=h;exact⟨K,h K (Nat.le_refl _)⟩
theorem ev_congr{α:Type}{g:Nat→Option α}{r s:α}(h:Ev g r)(e:r=s):Ev g s:=e ▸ h
theorem wrap_id{x:Int}(h0: -9223372036854775808≤x)(h1:x≤9223372036854775807):wrap64 x=x:=by
 unfold wrap64;omega
theorem wrap_succ{n m:Nat}(h:n<m)(hm:m≤9223372036854775807):wrap64 ((n:Int)+1)=((n+1:Nat):Int):=by
 rw[wrap_id (by omega) (by omega)];omega
theorem drop_cons{α:Type}(l:List α)(d:α)(i:Nat)(h:i<l.length):l.drop i=l.getD i d :: l.drop (i+1):=by
 rw[List.drop_eq_getElem_cons h,List.getD_eq_getElem?_getD,List.getElem?_eq_getElem h];rfl
theorem ev_loop{ρ:Type}(n:Nat)(L:Nat→Nat→Option ρ)(R:Nat→ρ)(hend:Ev (fun k=>L k n) (R n))(hstep:∀i,i<n→Ev (fun k=>L k (i+1)) (R (i+1))→Ev (fun k=>L k i) (R i)):∀i,i≤n→Ev (fun k=>L k i) (R i):=by
 have key:∀d i,i≤n→n-i=d→Ev (fun k=>L k i) (R i):=by
  intro d
  induction d with
  | zero=>
    intro i hi hd;have:i=n:=by omega
    subst this;exact hend
  | succ d ih=>
    intro i hi hd;exact hstep i (by omega) (ih (i+1) (by omega) (by omega))
 exact fun i hi=>key _ i hi rfl
theorem all_drop{α:Type}(l:List α)(d:α)(p:α→Bool)(i:Nat)(h:i<l.length):(l.drop i).all p=(p (l.getD i d)&&(l.drop (i+1)).all p):=by
 rw[drop_cons l d i h,List.all_cons]
def marked{α:Type}(f:Nat→α)(l:List α)(i:Nat):List α:=(List.range i).map f++l.drop i
theorem marked_length{α:Type}(f:Nat→α)(l:List α)(i:Nat)(h:i≤l.length):(marked f l i).length=l.length:=by
 simp[marked];omega
theorem marked_set{α:Type}(f:Nat→α)(l:List α)(i:Nat)(h:i<l.length):(marked f l i).set i (f i)=marked f l (i+1):=by
 unfold marked;have hl:((List.range i).map f).length=i:=by simp
 rw[List.set_append,if_neg (by omega),hl,Nat.sub_self,List.drop_eq_getElem_cons h,List.set_cons_zero,List.range_succ,List.map_append,List.append_assoc];rfl
theorem down(n:Nat)(P:Nat→Prop)(h0:P n)(hs:∀i,i<n→P (i+1)→P i):∀i,i≤n→P i:=by
 have key:∀d i,i≤n→n-i=d→P i:=by
  intro d
  induction d with
  | zero=>
    intro i hi hd;have:i=n:=by omega
    subst this;exact h0
  | succ d ih=>
    intro i hi hd;exact hs i (by omega) (ih (i+1) (by omega) (by omega))
 exact fun i hi=>key _ i hi rfl
end Go.Proofs.YtlecpdpdcocibaaEv
namespace Go.Proofs.Ytlecpdpdcocibaa.P
open Go.RowKit Go.Shelf Go.Proofs.YtlecpdpdcocibaaW.PrintWords Go.Proofs.YtlecpdpdcocibaaW.PrintLast Go.Proofs.YtlecpdpdcocibaaW.PrintMore Go.Proofs.YtlecpdpdcocibaaEv
set_option linter.unusedVariables false
set_option linter.unusedSimpArgs false
def BdS(T:Nat)(w0 w:World)(ok:Nat→Prop)(g:Nat)(n:Int)(es:List S116)(en:List S138):Prop:=
 ∃v0 v1,w.heap[g]? =some (.cells #[.int .i64 n,v0,v1] T (0,0))∧w0.heap.size≤g∧Kd.S k116 116 w w0.heap.size ok v0 es∧Kd.R k138 138 w w0.heap.size ok v1 en
def KeepB(w w':World)(ok:Nat→Prop)(g:Nat):Prop:=w.heap.size≤w'.heap.size∧∀k,k<w.heap.size→k≠g→¬ok k→w'.heap[k]? =w.heap[k]?
section
variable {T:Nat} {w0 w W W2:World} {ok ok':Nat→Prop} {g:Nat} {n:Int} {es:List S116} {en:List S138}
theorem KeepB.refl:KeepB w w ok g:=⟨Nat.le_refl _,fun _ _ _ _=>rfl⟩
theorem KeepB.trans(h:KeepB w W ok g)(h2:KeepB W W2 ok g):KeepB w W2 ok g:=⟨Nat.le_trans h.1 h2.1,fun k hk hg ho=>(h2.2 k (Nat.lt_of_lt_of_le hk h.1) hg ho).trans (h.2 k hk hg ho)⟩
theorem KeepB.below(h:Below w.heap.size w W):KeepB w W ok g:=⟨h.size,fun k hk _ _=>h.block k hk⟩
theorem KeepB.weaken(h:KeepB w W ok' g)(hk:∀k,ok' k→ok k):KeepB w W ok g:=⟨h.1,fun k h1 h2 h3=>h.2 k h1 h2 (fun h4=>h3 (hk k h4))⟩
theorem KeepB.blk(h:KeepB w W ok g){b:Nat}{o:Obj}(hb:w.heap[b]? =some o)(hg:b≠g)(ho:¬ok b):W.heap[b]? =some o:=(h.2 b (blk_lt hb) hg ho).trans hb
theorem Bd_mono(h:BdS T w0 w ok g n es en)(hk:∀k,ok k→ok' k):BdS T w0 w ok' g n es en:=by
 obtain⟨v0,v1,h1,h2,h3,h4⟩:=h;exact⟨v0,v1,h1,h2,Kd.S_mono h3 hk,Kd.R_mono h4 hk⟩
theorem Bd_drew(h:BdS T w0 w ok g n es en):BdS T w0 w.drew ok g n es en:=by
 obtain⟨v0,v1,h1,h2,h3,h4⟩:=h;exact⟨v0,v1,blk_drew h1,h2,Kd.S_drew h3,Kd.R_drew h4⟩
theorem Bd_lt(h:BdS T w0 w ok g n es en):g<w.heap.size:=by
 obtain⟨v0,v1,h1,_⟩:=h;exact blk_lt h1
theorem Bd_own(h:BdS T w0 w ok g n es en):w0.heap.size≤g:=by
 obtain⟨v0,v1,_,h2,_⟩:=h;exact h2
theorem Bd_below(h:BdS T w0 w ok g n es en)(hb:Below w.heap.size w W):BdS T w0 W (fun k=>ok k∧(k<w.heap.size∨W.heap.size≤k)) g n es en:=by
 obtain⟨v0,v1,h1,h2,h3,h4⟩:=h;exact⟨v0,v1,blk_below h1 hb,h2,Kd.S_below (Kd.S_mono (Kd.S_bound h3) fun k hk=>⟨hk.1, .inl hk.2.2.1⟩) hb,Kd.R_below (Kd.R_mono (Kd.R_bound h4) fun k hk=>⟨hk.1, .inl hk.2.2.1⟩) hb⟩
theorem Bd_cells(h:BdS T w0 w ok g n es en):∃A c v1,es.length≤c∧w.cell? ⟨g,0,none⟩=some (.int .i64 n)∧w.cell? ⟨g,1,none⟩=some (.slice A es.length c)∧w.cell? ⟨g,2,none⟩=some v1∧w.frozen? ⟨g,0,none⟩=false:=by
 obtain⟨v0,v1,h1,h2,h3,h4⟩:=h;obtain⟨A,c,e,hl,_⟩:=Kd.S_reads h3;subst e;exact⟨A,c,v1,hl,(blk_cell h1 0).trans rfl,(blk_cell h1 1).trans rfl,(blk_cell h1 2).trans rfl,blk_frozen h1 0⟩
theorem Bd_size(h:BdS T w0 w ok g n es en)(hT:T≠116∧T≠138∧T≠163)(m:Int):BdS T w0 (w.setCell ⟨g,0,none⟩ (.int .i64 m)) ok g m es en:=by
 obtain⟨v0,v1,h1,h2,h3,h4⟩:=h;refine⟨v0,v1,(blk_set h1 0 _).trans rfl,h2,Kd.S_set h3 h1 ?_ 0 _,Kd.R_set h4 h1 ?_ 0 _⟩
 ·intro q hq
  rcases List.mem_cons.1 hq with rfl|hq
  ·exact Ne.symm hT.1
  ·rcases List.mem_cons.1 (show q∈ [163]from hq)with rfl|hq
   ·exact Ne.symm hT.2.2
   ·exact absurd hq List.not_mem_nil
 ·intro q hq
  rcases List.mem_cons.1 hq with rfl|hq
  ·exact Ne.symm hT.2.1
  ·exact absurd (show q∈([]:List Nat)from hq) List.not_mem_nil
theorem KeepB.set(j:Nat)(v:Value):KeepB w (w.setCell ⟨g,j,none⟩ v) ok g:=⟨by simp,fun k _ hg _=>Below.heap_setCell w _ _ k hg⟩
end
theorem infoEdge_:(Try.prog.info? 116).map (fun i=>(i.zero,i.size,i.bytes))=some (some (.agg #[(.int .i64 0),(.int .i64 0),(.slice none 0 0)]),3,40):=by kernel_rfl
theorem infoEnd_:(Try.prog.info? 138).map (fun i=>(i.zero,i.size,i.bytes))=some (some (.agg #[(.int .i64 0),(.int .i64 0)]),2,16):=by kernel_rfl
def fullB(n:Int)(es:List S116):Bool:=decide (n>3000)||decide ((es.length:Int)>12000)
theorem fullS_hand{w0:World}(ok:Nat→Prop)(g:Nat)(n:Int)(es:List S116)(en:List S138)(w:World)(hI:BdS 186 w0 w ok g n es en):
   Calls Try.prog 144 #[.pointer (some ⟨g,0,none⟩)] w fun e w'=>e= .returned (.bool (fullB n es))∧w=w':=by
 obtain⟨A,c,v1,hl,h0,h1,h2,hf⟩:=Bd_cells hI;clear hI;unfold fullB;by_cases c1:n>3000
 ·have e1:=dt_ c1
  rw[e1,Bool.true_or];clear c1;go_enter Try.func144,Try.ntmps144;go_wp2
  go_ret
  exact⟨rfl,rfl⟩
 ·have e1:=df_ c1
  rw[e1,Bool.false_or];clear c1;go_enter Try.func144,Try.ntmps144;go_wp2
  go_ret
  exact⟨by simp,rfl⟩
theorem stateS_hand{w0:World}(ok:Nat→Prop)(g:Nat)(n:Int)(es:List S116)(en:List S138)(w:World)(hI:BdS 186 w0 w ok g n es en)(hB:Below w0.heap.size w0 w)(hn:0≤n∧n≤1000000):
   Calls Try.prog 145 #[.pointer (some ⟨g,0,none⟩)] w fun e w'=>e= .returned (.int .i64 n)∧BdS 186 w0 w' ok g (n+1) es en∧Below w0.heap.size w0 w'∧KeepB w w' ok g:=by
 obtain⟨A,c,v1,hl,h0,h1,h2,hf⟩:=Bd_cells hI;have HI:=q_ (Bd_size hI (by decide) (n+1));have HB:=q_ (below_set (j:=0) (v:= .int .i64 (n+1)) hB (Bd_own hI));clear hI hB;obtain⟨hn0,hn1⟩:=hn;go_enter Try.func145,Try.ntmps145;go_wp2
 go_ret
 exact⟨by simp,HI.o,HB.o,KeepB.set 0 _⟩
end Go.Proofs.Ytlecpdpdcocibaa.P
namespace Go.Proofs.Ytlecpdpdcocibaa.P
open Go.RowKit Go.Shelf Go.Proofs.YtlecpdpdcocibaaW.PrintWords Go.Proofs.YtlecpdpdcocibaaW.PrintLast Go.Proofs.YtlecpdpdcocibaaW.PrintMore Go.Proofs.YtlecpdpdcocibaaEv
set_option linter.unusedVariables false
set_option linter.unusedSimpArgs false
theorem edgeS_hand{w0:World}(ok:Nat→Prop)(g:Nat)(n a b:Int)(es:List S116)(en:List S138)(A:Option Addr)(c:Nat)(s:List S163)(w:World)(hI:BdS 186 w0 w ok g n es en)(hB:Below w0.heap.size w0 w)(hF:∀k,w.heap.size≤k→ok k)(hs:Kd.C k163 w A s.length s)(hc:s.length≤c)(hsl:s.length≤1048576)(hl:es.length≤1000000):
   Calls Try.prog 135 #[.pointer (some ⟨g,0,none⟩), .int .i64 a, .int .i64 b, .slice A s.length c] w fun e w'=>e= .returned (.tuple #[])∧BdS 186 w0 w' ok g n (es++ [⟨a,b,s⟩]) en∧Below w0.heap.size w0 w'∧KeepB w w' ok g:=by
 obtain⟨v0,v1,hG,hg,hR0,hR1⟩:=hI;obtain⟨A0,c0,rfl⟩:=Kd.S_slice hR0;have GE:=q_ hg;have BK:=q_ (blk_drew hG);have HO0:=q_ (Kd.S_drew (Kd.S_mono (Kd.S_bound hR0) (ok':=fun k=>ok k∧¬w.heap.size≤k) fun k hk=>⟨hk.1,Nat.not_le.2 hk.2.2.1⟩));have HO1:=q_ (Kd.R_drew hR1);have HB:=q_ (below_drew1 hB);have HF:=q_ hF;have HS:=q_ (Kd.C_drew hs);have HL0:=q_ (Kd.S_lt hR0);have HK:J0 (Below w.heap.size w w.drew):=⟨below_drew1 (Below.refl _ _)⟩;have hu1:=Try.underlying114;have hu2:=Try.underlying57;clear hG hg hR0 hR1 hB hF hs;go_enter Try.func135,Try.ntmps135
 go_wp2_with fail
 refine start_ (n:=18) (S:=fun w'=>w'.cell? ⟨g,1,none⟩=some (.slice A0 es.length c0)) (ds:=[17]) (bb 18 0) (by kernel_rfl) rfl rfl ((blk_cell BK.o 1).trans rfl) (fun hS=>?_);generalize w.drew=W1 at BK HO0 HO1 HB HS HK hS ⊢;refine pk_ 0 8 1 ?_;refine pk_ 1 9 3 ?_;refine pk_ 2 10 7 ?_;refine pk_ 3 11 15 ?_;refine pk_ 4 12 31 ?_;refine pk_ 6 14 95 ?_;refine pk_ 7 15 223 ?_;refine pk_ 9 17 735 ?_;refine tk_ 5 13 767 hS ?_;refine one_ (i:=8) (N:=some 16) (bb 18 1023) rfl rfl (by kernel_rfl) (by decide) (fun K hK=>?_);refine Kd.R_lit_step k163 W1.heap.size 163 (by rfl) (N:=16) rfl (xs:=([]:List S163)) (inner:=[]) (ok:=fun _=>True) (okp:=fun _=>True) ?hr ?hp (fun _ hk=>hk) trivial (Below.refl _ _) (Nat.le_refl _) (by simp) ?_;(case hr=>first| (go_simp;done)| (go_simp;rfl));(case hp=>exact(Reps.none _ _));intro v W2 ho hb _ _;have HE:=q_ ho;have HX:=q_ hb;clear ho hb;refine hK.out _ _ ((blk_cell (blk_below BK.o HX.o) 1).trans rfl) (fun hS=>?_);clear hK K;refine no_ (some 16) ?_;refine one_ (i:=10) (N:=some 18) (bb 18 2047) rfl rfl (by kernel_rfl) (by decide) (fun K hK=>?_);refine Kd.R_append_rows_step k163 (w0:=W1) W1.heap.size (by rfl) (.tmp 16) (.tmp 17) 114 163 (.agg #[(.int .i64 0),(.int .i64 0)]) 16 rfl Try.underlying114 info163 rfl (by decide) (by omega) v [] s _ _ _ (fun _=>True) (fun _=>False) rfl rfl ?aO ?aR (fun _ _ h=>h) (fun _ h=>h.elim) ?aF ?aB ?aS ?aL ?_;(case aO=>exact HE.o);(case aR=>exact Kd.C_below HS.o HX.o);(case aF=>exact fun _ _=>trivial);(case aB=>exact HX.o);(case aS=>exact HX.o.size);(case aL=>simp;omega);intro v3 W3 hV hb _ _;rw[List.nil_append]at hV;obtain⟨AV,cV,rfl⟩:=Kd.R_slice hV;have HV:J0 (Kd.R k163 163 W3 w0.heap.size (fun k=>w.heap.size≤k) (.slice AV s.length cV) s):=⟨Kd.R_lower (Kd.R_mono (Kd.R_bound hV) fun k hk=>Nat.le_trans HK.o.size hk.2.1) HB.o.size⟩;replace HO0:=q_ (Kd.S_below HO0.o hb);replace HO1:=q_ (Kd.R_below HO1.o hb);replace BK:=q_ (blk_below BK.o hb);replace HB:=q_ (below_step HB.o hb);replace HK:=q_ (below_step HK.o hb);clear hb hV HS HX HE;refine hK.out _ _ ((blk_cell BK.o 1).trans rfl) (fun hS=>?_);clear hK K;refine no_ (some 18) ?_;refine pk_ 11 19 4095 ?_;refine one_ (i:=12) (N:=some 20) (bb 18 8191) rfl rfl (by kernel_rfl) (by decide) (fun K hK=>?_);refine value_ (w1:=?_) (v:=?_) (by rfl) rfl ?_ ?_;rotate_left 2
 ·go_simp
  constructor
  ·rfl
  ·rfl
 refine hK.out _ _ ((World.cell?_alloc_lt _ _ _ (World.block_lt_of_cell? _ _ hS)).trans hS) (fun hS=>?_);clear hK K;refine no_ (some 20) ?_;refine one_ (i:=13) (N:=some 21) (bb 18 16383) rfl rfl (by kernel_rfl) (by decide) (fun K hK=>?_);refine Kd.S_append_step k116 (w0:=w0) w0.heap.size (by rfl) (.tmp 13) (.tmp 20) 57 116 (.agg #[(.int .i64 0),(.int .i64 0),(.slice none 0 0)]) 40 rfl Try.underlying57 infoEdge_ rfl (by decide) (by omega) (.slice A0 es.length c0) es (⟨a,b,s⟩:S116) [.int .i64 a, .int .i64 b, .slice AV s.length cV] ok (fun k=>w.heap.size≤k) rfl rfl ?aP ?aQ ?aF HO0.o HB.o (below_size HB.o) ?aL ?_;(case aP=>exact k116_mkM _ _ _ (⟨a,b,s⟩:S116) HV.o);(case aQ=>exact fun k hk=>⟨HF.o k hk,fun e=>Nat.not_lt.2 hk (HL0.o k e.symm)⟩);(case aF=>exact fun k hk=>HF.o k (Nat.le_trans HK.o.size hk));(case aL=>omega);intro v2 w2 ho hb hgr hat;have hne:=Kd.S_ne HO0.o BK.o (by decide);have HOb:=q_ (Kd.R_over' HO1.o (Kd.S_typed HO0.o) (by decide) hgr);have BK2:=q_ (blk_grown BK.o hgr hne);have KP2:J0 (KeepB w w2 ok g):=⟨Nat.le_trans HK.o.size hgr.size,fun k hk hkg hko=>(hgr.block k (Nat.lt_of_lt_of_le hk HK.o.size) (fun e=>hko ((Kd.S_R HO0.o).1 k e.symm).1)).trans (HK.o.block k hk)⟩;obtain⟨A2,c2,rfl⟩:=Kd.S_slice ho;have hln:(es++ [(⟨a,b,s⟩:S116)]).length=es.length+1:=by simp
 rw[hln]at ho ⊢;have hS2:=(blk_cell BK2.o 1);have hf2:=blk_frozen BK2.o 1;refine hK.out _ _ ?hS3 (fun hS=>?_);(case hS3=>exact(blk_cell BK2.o 1).trans rfl);clear hK K;refine no_ (some 21) ?_;refine pk_ 14 22 32767 ?_;refine pk_ 15 23 65535 ?_;refine pk_ 16 24 131071 ?_;refine last_ (i:=17) (N:=none) (bb 18 262143) rfl rfl (by kernel_rfl) (by decide) (fun K hK=>?_);refine skip_ (w1:=?_) (by rfl) rfl ?_ ?_;rotate_left
 ·go_simp
  rfl
 refine hK.out _ _ ?_;clear hK K;refine done_ (by kernel_rfl) ?_
 go_wp2_with fail
 go_end0
 exact⟨rfl,⟨_,_,(blk_set BK2.o 1 _).trans rfl,GE.o,Kd.S_set ho BK2.o (by decide) 1 _,Kd.R_set HOb.o BK2.o (by decide) 1 _⟩,below_set hb GE.o,KeepB.trans KP2.o (KeepB.set 1 _)⟩
structure FrB (T:Nat) (w0 w5 W:World) (ok:Nat→Prop) (g:Nat) (n:Int) (es:List S116) (en:List S138):Prop where
 st:BdS T w0 W ok g n es en
 lo:Below w0.heap.size w0 W
 kp:KeepB w5 W ok g
def okF(ok:Nat→Prop)(w w5:World)(k:Nat):Prop:=ok k∧(k<w.heap.size∨w5.heap.size≤k)
section
variable {T:Nat} {w0 w w5 W W2:World} {ok:Nat→Prop} {g:Nat} {n n2:Int} {es es2:List S116} {en en2:List S138}
theorem FrB.start(hI:BdS T w0 w ok g n es en)(hB:Below w0.heap.size w0 w)(hb:Below w.heap.size w w5):FrB T w0 w5 w5 (okF ok w w5) g n es en:=⟨Bd_below hI hb,hB.trans (hb.mono hB.size),KeepB.refl⟩
theorem FrB.here(hI:BdS T w0 w ok g n es en)(hB:Below w0.heap.size w0 w):FrB T w0 w w ok g n es en:=⟨hI,hB,KeepB.refl⟩
theorem FrB.drew(h:FrB T w0 w5 W ok g n es en):FrB T w0 w5 W.drew ok g n es en:=⟨Bd_drew h.st,below_drew1 h.lo,h.kp⟩
theorem FrB.call(h:FrB T w0 w5 W ok g n es en)(hI:BdS T w0 W2 ok g n2 es2 en2)(hB:Below w0.heap.size w0 W2)(hK:KeepB W W2 ok g):FrB T w0 w5 W2 ok g n2 es2 en2:=⟨hI,hB,h.kp.trans hK⟩
theorem FrB.fr(h:FrB T w0 w5 W ok g n es en)(hf:∀k,w5.heap.size≤k→ok k):∀k,W.heap.size≤k→ok k:=fun k hk=>hf k (Nat.le_trans h.kp.1 hk)
theorem okF.free(hf:∀k,w.heap.size≤k→ok k)(hb:Below w.heap.size w w5):∀k,w5.heap.size≤k→okF ok w w5 k:=fun k hk=>⟨hf k (Nat.le_trans hb.size hk), .inr hk⟩
theorem okF.own{b:Nat}(h1:w.heap.size≤b)(h2:b<w5.heap.size):¬okF ok w w5 b:=fun h=>by have:=h.2;omega
theorem FrB.blk(h:FrB T w0 w5 W (okF ok w w5) g n es en){b:Nat}{o:Obj}(hb:w5.heap[b]? =some o)(h1:w.heap.size≤b)(hg:g<w.heap.size):W.heap[b]? =some o:=h.kp.blk hb (by omega) (okF.own h1 (blk_lt hb))
theorem FrB.fin(h:FrB T w0 w5 W (okF ok w w5) g n es en)(hb:Below w.heap.size w w5):BdS T w0 W ok g n es en∧Below w0.heap.size w0 W∧KeepB w W ok g:=⟨Bd_mono h.st (fun _ hk=>hk.1),h.lo,(KeepB.below hb).trans (h.kp.weaken fun _ hk=>hk.1)⟩
theorem FrB.fin0(h:FrB T w0 w W ok g n es en):BdS T w0 W ok g n es en∧Below w0.heap.size w0 W∧KeepB w W ok g:=⟨h.st,h.lo,h.kp⟩
end
end Go.Proofs.Ytlecpdpdcocibaa.P
namespace Go.Proofs.Ytlecpdpdcocibaa.P
open Go.RowKit Go.Proofs.YtlecpdpdcocibaaW.PrintWords Go.Proofs.YtlecpdpdcocibaaW.PrintLast Go.Proofs.YtlecpdpdcocibaaW.PrintMore
attribute [local go_sem] max2_int min2_int max_two min_two max_three min_three max_four min_four
set_option linter.unusedVariables false
set_option linter.unusedSimpArgs false
def impl_within.f(a0:Int)(a1:Int)(a2:Int):Option (Bool):=if a0≥a1 then(some (decide (a0≤a2)))else(some false)
theorem impl_within.calls(a0:Int)(a1:Int)(a2:Int)(r:Bool)(w:World)(h:impl_within.f a0 a1 a2=some r):
  Calls Try.prog 57 #[.int .i64 a0, .int .i64 a1, .int .i64 a2] w fun e w'=>e= .returned (.bool r)∧Drawn0 w w':=by
 have H:(if a0≥a1 then(some (decide (a0≤a2)))else(some false))=some r:=h;clear h;by_cases c4:a0≥a1
 ·rw[if_pos c4]at H;have c4b0:decide (a1≤a0)=true:=dt_ c4;clear c4;obtain rfl:=Option.some.inj H;go_enter Try.func57,Try.ntmps57;go_wp2
  go_ret
  exact⟨by rfl,by repeat(exact Drawn0.refl _)⟩
 rw[if_neg c4]at H;have c4b0:decide (a1≤a0)=false:=df_ c4;clear c4;obtain rfl:=Option.some.inj H;go_enter Try.func57,Try.ntmps57;go_wp2
 go_ret
 exact⟨by rfl,by repeat(exact Drawn0.refl _)⟩
end Go.Proofs.Ytlecpdpdcocibaa.P
namespace Go.Proofs.Ytlecpdpdcocibaa.P
open Go.RowKit Go.Proofs.YtlecpdpdcocibaaW.PrintWords Go.Proofs.YtlecpdpdcocibaaW.PrintLast Go.Proofs.YtlecpdpdcocibaaEv
set_option linter.unusedVariables false
set_option linter.unusedSimpArgs false
theorem spec_l1In_eq(a b c:Int):spec_l1In.f a b c=some (decide (b≤a∧a≤c)):=by
 unfold spec_l1In.f;by_cases h:a≥b<;>simp[h]
theorem impl_within_eq(a b c:Int):impl_within.f a b c=some (decide (b≤a∧a≤c)):=by
 unfold impl_within.f;by_cases h:a≥b<;>simp[h]
end Go.Proofs.Ytlecpdpdcocibaa.P
namespace Go.Proofs.Ytlecpdpdcocibaa.P
open Go.RowKit Go.Proofs.YtlecpdpdcocibaaW.PrintWords Go.Proofs.YtlecpdpdcocibaaW.PrintLast Go.Proofs.YtlecpdpdcocibaaW.PrintMore Go.Proofs.YtlecpdpdcocibaaEv
set_option linter.unusedVariables false
set_option linter.unusedSimpArgs false
def kidsN(op:Int):Int:=if op=1∨op=2 then 0 else if op=3∨op=4 then 2 else if op=5∨op=6∨op=7∨op=8 then 1 else -1
def timesB(mi ma:Int):Bool:=decide (0≤mi∧mi≤30)&&(decide (ma= -1)||(decide (mi≤ma∧ma≤30)&&decide (ma≠0)))
def spansR:Int→List S163→Bool
 | _,[]=>true
 |last,s :: rest=>decide (0≤s.f0)&&decide (s.f0≤s.f1)&&decide (s.f1≤255)&&decide (last+2≤s.f0)&&spansR s.f1 rest
def classB(l:List S163):Bool:=spansR (-2) l
theorem spansR_few:∀(l:List S163) (last:Int), -2≤last→spansR last l=true→2*(l.length:Int)≤255-last∨l= []:=by
 intro l
 induction l with
 |nil=>intro last _ _;exact .inr rfl
 | cons a l ih=>
   intro last h0 h;simp only[spansR,Bool.and_eq_true,decide_eq_true_eq]at h
   left
   rcases ih a.f1 (by omega) h.2 with h1|h1
   ·simp only[List.length_cons]
    omega
   ·subst h1
    simp;omega
theorem classB_few{l:List S163}(h:classB l=true):l.length≤128:=by
 rcases spansR_few l (-2) (by omega) h with h1|h1
 ·omega
 ·simp[h1]
theorem spec_ClassOk_ev(l:List S163):Ev (fun k=>spec_ClassOk.f k l) (classB l):=by
  unfold spec_ClassOk.f;simp only[ev_ite];by_cases h6:l.length≤128
  · rw [if_neg (by omega)]
    unfold classB;have key:=down l.length (fun i=>∀last:Int,(i=0→last= -2)→(0<i→last=(rd_T163 l ((i-1:Nat):Int)).f1∧0≤last∧last≤255)→Ev (fun k=>spec_ClassOk.l0 k l (i:Nat)) (spansR last (l.drop i))) ?_ ?_ 0 (by omega) (-2) (fun _=>rfl) (by omega)
    ·exact key
    ·intro last _ _
     rw[ev_succ];simp only[spec_ClassOk.l0,ev_ite,ev_some];rw[if_neg (by omega),List.drop_length];rfl
    · intro i hi ih last hl0 hl1
      rw[ev_succ,drop_cons l z163 i hi];have hr:l.getD i z163=rd_T163 l i:=by simp[rd_T163]
      rw[hr];have ih2:=fun h=>ih (rd_T163 l i).f1 (by omega) (fun _=>⟨by rw[Nat.add_sub_cancel],h⟩)
      simp only[spec_ClassOk.l0,spec_l1In_eq,Option.bind_some,ev_ite,ev_some,spansR];rw[if_pos (by omega),if_pos (by omega),wrap_succ hi (by omega)];have hprev:0<i→(0≤wrap64 ((i:Int)-1)∧wrap64 ((i:Int)-1)<l.length∧(rd_T163 l (wrap64 ((i:Int)-1))).f1=last∧wrap64 (last+2)=last+2):=by
        intro hp;have:=hl1 hp;rw[wrap_id (x:=(i:Int)-1) (by omega) (by omega),wrap_id (x:=last+2) (by omega) (by omega)];exact⟨by omega,by omega,by rw[this.1,show((i:Int)-1)=((i-1:Nat):Int) by omega],rfl⟩
      generalize(l.drop (i+1))=T at *;generalize rd_T163 l (i:Int)=a at *;generalize hG:(fun k=>spec_ClassOk.l0 k l ((i+1:Nat):Int))=G at *;by_cases c1:0≤a.f0∧a.f0≤255
      · rw [if_pos (by simpa using c1)]
        by_cases c2:a.f0≤a.f1∧a.f1≤255
        · rw [if_pos (by simpa using c2)]
          have hend:(last+2≤a.f0)→Ev G (decide (0≤a.f0)&&decide (a.f0≤a.f1)&&decide (a.f1≤255)&&decide (last+2≤a.f0)&&spansR a.f1 T):=by
            intro h5;refine ev_congr (ih2 (by omega)) ?_;simp[c1,c2,h5]
          by_cases h00:i=0
          · rw[if_neg (by omega)]
            exact hend (by have:=hl0 h00;omega)
          · obtain⟨h1',h2',h3',h4'⟩:=hprev (by omega)
            rw[if_pos (by omega),if_pos h1',if_pos h2',h3',h4'];by_cases c5:a.f0<last+2
            ·rw[if_pos c5];simp[show ¬last+2≤a.f0 by omega]
            · rw[if_neg c5]
              exact hend (by omega)
        ·rw[if_neg (by simpa using c2)]
         grind
      · rw[if_neg (by simpa using c1)]
        grind
  ·rw[if_pos (by omega)]
   refine ev_some.2 ?_;cases h:classB l
   ·rfl
   ·exact absurd (classB_few h) h6
def nodeB(op:Int)(set:List S163)(kids:List Int)(mi ma place:Int):Bool:=
 decide ((kids.length:Int)=kidsN op)&& !(kids.any fun x=> !decide (0≤x∧x≤place-1))&&(if op=2 then classB set&& !decide (set.length=0)else decide (set.length=0))&&(if op=8 then timesB mi ma else decide (mi=0)&&decide (ma=0))
theorem rd_set(l:List Int)(x v p:Int)(h0:0≤x)(hx:x<l.length)(hp:0≤p):rd (l.set x.toNat v) p=if p=x then v else rd l p:=by
 unfold rd;simp only[List.getD_eq_getElem?_getD,List.getElem?_set];by_cases h:p=x
 ·subst h
  rw[if_pos rfl,if_pos rfl,if_pos (by omega)];rfl
 ·rw[if_neg (by omega),if_neg h]
def addKids(K kids:List Int):List Int:=kids.foldl (fun K x=>K.set x.toNat (rd K x+1)) K
def setKids(D kids:List Int)(v:Int):List Int:=kids.foldl (fun D x=>D.set x.toNat v) D
theorem addKids_length(kids:List Int):∀K:List Int,(addKids K kids).length=K.length:=by
 induction kids with
 |nil=>intro K;rfl
 |cons x kids ih=>intro K;simp only[addKids,List.foldl_cons]at ih ⊢;rw[ih];simp
theorem setKids_length(kids:List Int)(v:Int):∀D:List Int,(setKids D kids v).length=D.length:=by
 induction kids with
 |nil=>intro K;rfl
 |cons x kids ih=>intro K;simp only[setKids,List.foldl_cons]at ih ⊢;rw[ih];simp
theorem addKids_rd(kids:List Int):∀K:List Int,(∀x∈kids,0≤x∧x<K.length)→∀p:Int,0≤p→rd (addKids K kids) p=rd K p+(kids.count p:Nat):=by
 induction kids with
 |nil=>intro K _ p _;simp[addKids]
 | cons x kids ih=>
   intro K hk p hp;have hx:=hk x (by simp);have:=ih (K.set x.toNat (rd K x+1)) (fun y hy=>by simpa using hk y (by simp[hy])) p hp;simp only[addKids,List.foldl_cons]at this ⊢;rw[this,rd_set _ _ _ _ hx.1 hx.2 hp,List.count_cons];by_cases h:p=x
   ·subst h;simp;omega
   ·rw[if_neg h]
    have:(x==p)=false:=beq_eq_false_iff_ne.2 (fun e=>h e.symm);simp[this]
theorem setKids_le(kids:List Int)(v:Int)(h0:0≤v)(h1:v≤151):∀D:List Int,(∀p:Int,0≤p→0≤rd D p∧rd D p≤151)→(∀x∈kids,0≤x∧x<D.length)→∀p:Int,0≤p→0≤rd (setKids D kids v) p∧rd (setKids D kids v) p≤151:=by
 induction kids with
 |nil=>intro D hD _;exact hD
 | cons x kids ih=>
   intro D hD hk;simp only[setKids,List.foldl_cons]at ih ⊢;refine ih _ (fun p hp=>?_) (fun y hy=>by simpa using hk y (by simp[hy]));rw[rd_set _ _ _ _ (hk x (by simp)).1 (hk x (by simp)).2 hp];split
   ·exact⟨h0,h1⟩
   ·exact hD p hp
def cntFrom(l:List S196)(j:Nat)(p:Int):Nat:=((l.drop j).map fun s=>s.f2.count p).sum
theorem cntFrom_step(l:List S196)(j:Nat)(p:Int)(h:j<l.length):cntFrom l j p=(rd_T196 l j).f2.count p+cntFrom l (j+1) p:=by
 unfold cntFrom;rw[drop_cons l z196 j h];have hr:l.getD j z196=rd_T196 l j:=by simp[rd_T196]
 rw[hr];simp
def nodeAt(l:List S196)(j:Nat):Bool:=nodeB (rd_T196 l j).f0 (rd_T196 l j).f1 (rd_T196 l j).f2 (rd_T196 l j).f3 (rd_T196 l j).f4 j
def nodesB(l:List S196):Nat→Bool
 |0=>true
 |j+1=>nodeAt l j&&nodesB l j
theorem kidsN_le(op:Int):kidsN op≤2:=by
 unfold kidsN;split
 ·omega
 ·split
  ·omega
  ·split<;>omega
theorem node_kids{l:List S196}{j:Nat}(h:nodeAt l j=true):(rd_T196 l j).f2.length≤2∧((rd_T196 l j).f2.length:Int)=kidsN (rd_T196 l j).f0∧∀x∈(rd_T196 l j).f2,0≤x∧x<j:=by
 unfold nodeAt nodeB at h;simp only[Bool.and_eq_true,decide_eq_true_eq,Bool.not_eq_true',List.any_eq_false,Bool.not_eq_true]at h;obtain⟨⟨⟨h1,h2⟩,_⟩,_⟩:=h;refine⟨by have:=kidsN_le (rd_T196 l j).f0;omega,h1,fun x hx=>?_⟩;have:=h2 x hx;simp at this;omega
theorem nodesB_at{l:List S196}{n:Nat}(h:nodesB l n=true):∀j,j<n→nodeAt l j=true:=by
 induction n with
 |zero=>intro j hj;omega
 | succ n ih=>
   simp only[nodesB,Bool.and_eq_true]at h;intro j hj;by_cases e:j=n
   ·subst e;exact h.1
   ·exact ih h.2 j (by omega)
theorem nodesB_of{l:List S196}{n:Nat}(h:∀j,j<n→nodeAt l j=true):nodesB l n=true:=by
 induction n with
 |zero=>rfl
 | succ n ih=>
   simp only[nodesB,Bool.and_eq_true];exact⟨h n (by omega),ih fun j hj=>h j (by omega)⟩
def treeR(l:List S196):Nat→List Int→Bool
 |0,_=>true
 |j+1,D=>(decide (j+1=l.length)||decide (cntFrom l (j+1) j=1))&&decide (rd D j≤150)&&treeR l j (setKids D (rd_T196 l j).f2 (rd D j+1))
def rxB(l:List S196):Bool:=decide (1≤l.length)&&decide (l.length≤300)&&nodesB l l.length&&treeR l l.length (List.replicate l.length 0)
theorem rxB_parts{l:List S196}(h:rxB l=true):1≤l.length∧l.length≤300∧∀j,j<l.length→nodeAt l j=true:=by
 simp only[rxB,Bool.and_eq_true,decide_eq_true_eq]at h;exact⟨h.1.1.1,h.1.1.2,nodesB_at h.1.2⟩
theorem rd_replicate(n:Nat)(p:Int):rd (List.replicate n 0) p=0:=by
 unfold rd;rw[List.getD_eq_getElem?_getD,List.getElem?_replicate];split<;>rfl
theorem count_le_two{kids:List Int}(h:kids.length≤2)(p:Int):kids.count p≤2:=Nat.le_trans List.count_le_length h
theorem spec_l3Kids_ev(op:Int)(h:1≤op∧op≤8):Ev (fun k=>spec_l3Kids.f k op) (kidsN op):=by
 have h0:∀b,Ev (fun k=>spec_l3Kids.j0 k op b) (if b then 2 else if op=5∨op=6∨op=7∨op=8 then 1 else 0):=by
  intro b;rw[ev_succ];simp only[spec_l3Kids.j0,ev_ite,ev_some];cases b<;>grind
 unfold spec_l3Kids.f kidsN;simp only[ev_ite];by_cases e1:op=3
 ·rw[if_pos e1]
  exact ev_congr (h0 _) (by grind)
 ·rw[if_neg e1]
  exact ev_congr (h0 _) (by grind)
theorem spec_l3Node_ev(op:Int)(set:List S163)(kids:List Int)(mi ma place:Int)(hp0:0≤place)(hp1:place≤1000000)(hk:kids.length≤9223372036854775807):Ev (fun k=>spec_l3Node.f k op set kids mi ma place) (nodeB op set kids mi ma place):=by
  have hbad:Ev (fun k=>spec_l3Node.j0 k place true op set kids mi ma) false:=by
   rw[ev_succ];simp only[spec_l3Node.j0,if_true];exact ev_some.2 rfl
  have hj2 :∀b:Bool,Ev (fun k=>spec_l3Node.j2 k b op set kids mi ma) (!b&&(if op=8 then timesB mi ma else decide (mi=0)&&decide (ma=0))):=by
    intro b;rw[ev_succ];simp only[spec_l3Node.j2,spec_l1In_eq,Option.bind_some,ev_ite,ev_some];cases b
    · rw [if_neg (by simp),Bool.not_false,Bool.true_and]
      by_cases h8:op=8
      · rw [if_pos h8,if_pos h8]
        unfold timesB mx;by_cases c1:0≤mi∧mi≤30
        · rw[if_pos (by simpa using c1)]
          by_cases c2:ma= -1
          ·rw[if_pos c2];simp[c1,c2]
          · rw[if_neg c2]
            by_cases c3:1<mi
            ·rw[if_pos c3,Bool.eq_iff_iff];simp[c1,c2];omega
            ·rw[if_neg c3,Bool.eq_iff_iff];simp[c1,c2];omega
        · rw[if_neg (by simpa using c1)]
          simp[c1]
      · rw[if_neg h8,if_neg h8]
        by_cases c1:mi=0
        ·rw[if_pos c1];simp[c1];rfl
        ·rw[if_neg c1];simp[c1]
    ·rw[if_pos rfl]
     rfl
  unfold spec_l3Node.f nodeB;simp only[spec_l1In_eq,Option.bind_some,ev_ite];by_cases h18:1≤op∧op≤8
  · rw [if_pos (by simpa using h18),ev_bind (spec_l3Kids_ev op h18)]
    by_cases hkk:(kids.length:Int)=kidsN op
    · rw [bne_eq_false_iff_eq.2 hkk,decide_eq_true hkk,Bool.true_and,ev_succ]
      simp only[spec_l3Node.j0,Bool.false_eq_true,if_false];have key:=ev_loop kids.length (fun k i=>spec_l3Node.l0 k place (i:Nat) op set kids mi ma) (fun i=> !((kids.drop i).any fun x=> !decide (0≤x∧x≤place-1))&&(if op=2 then classB set&& !decide (set.length=0)else decide (set.length=0))&&(if op=8 then timesB mi ma else decide (mi=0)&&decide (ma=0))) ?_ ?_ 0 (by omega)
      ·exact key
      · rw [ev_succ]
        simp only[spec_l3Node.l0,ev_ite];rw[if_neg (by omega),List.drop_length];simp only[List.any_nil,Bool.not_false,Bool.true_and];by_cases h2:op=2
        · rw [if_pos h2,ev_bind (spec_ClassOk_ev set),if_pos h2]
          simp only[ev_ite];cases hc:classB set
          · rw[if_neg (by simp)]
            simpa using hj2 true
          · rw[if_pos rfl]
            by_cases hs:set.length=0
            · rw[if_pos (by omega),decide_eq_true hs]
              simpa using hj2 true
            · rw[if_neg (by omega),decide_eq_false hs]
              simpa using hj2 false
        · rw[if_neg h2,if_neg h2]
          refine ev_congr (hj2 _) ?_;by_cases hs:set.length=0
          ·rw[decide_eq_false (show ¬(set.length:Int)>0 by omega),decide_eq_true hs];rfl
          ·rw[decide_eq_true (show(set.length:Int)>0 by omega),decide_eq_false hs];rfl
      · intro i hi ih
        rw[ev_succ,drop_cons kids 0 i hi];have hr:kids.getD i 0=rd kids i:=by simp[rd]
        rw[hr];simp only[spec_l3Node.l0,spec_l1In_eq,Option.bind_some,ev_ite,List.any_cons];rw[if_pos (by omega),if_pos (by omega),wrap_succ hi (by omega),wrap_id (x:=place-1) (by omega) (by omega)];by_cases c:0≤rd kids i∧rd kids i≤place-1
        · rw[if_pos (by simpa using c)]
          refine ev_congr ih ?_;simp[c]
        · rw[if_neg (by simpa using c)]
          refine ev_some.2 ?_;rw[decide_eq_false c];simp
    ·rw[bne_iff_ne.2 hkk,decide_eq_false hkk]
     simpa using hbad
  ·rw[if_neg (by simpa using h18)]
   refine ev_congr hbad ?_;have:kidsN op= -1:=by
    unfold kidsN;rw[if_neg (by omega),if_neg (by omega),if_neg (by omega)]
   rw[this,decide_eq_false (by omega)];simp
def cntTo(l:List S196)(j:Nat)(p:Int):Nat:=((l.take j).map fun s=>s.f2.count p).sum
theorem cntTo_step(l:List S196)(j:Nat)(p:Int)(h:j<l.length):cntTo l (j+1) p=cntTo l j p+(rd_T196 l j).f2.count p:=by
 have hr:rd_T196 l (j:Int)=l[j]:=by unfold rd_T196;rw[List.getD_eq_getElem?_getD,Int.toNat_natCast,List.getElem?_eq_getElem h];rfl
 unfold cntTo;rw[hr,List.take_succ_eq_append_getElem h,List.map_append,List.sum_append];simp only[List.map_cons,List.map_nil,List.sum_cons,List.sum_nil,Nat.add_zero]
theorem cntTo_all(l:List S196)(p:Int):cntTo l l.length p=cntFrom l 0 p:=by simp[cntTo,cntFrom]
theorem cntFrom_own(l:List S196)(hok:∀i,i<l.length→nodeAt l i=true)(j:Nat)(hj:j<l.length):cntFrom l 0 j=cntFrom l (j+1) j:=by
 have:∀m,m≤j+1→cntFrom l m j=cntFrom l (j+1) j:=by
  refine down (j+1) _ rfl ?_;intro i hi ih;rw[cntFrom_step l i _ (by omega),ih];have:(rd_T196 l i).f2.count (j:Int)=0:=List.count_eq_zero.2 (fun hmem=>by
   have:=(node_kids (hok i (by omega))).2.2 _ hmem;omega)
  omega
 exact this 0 (by omega)
theorem spec_RxOk_l3(l:List S196)(n:Int)(U:List Int)(j:Nat)(kids:List Int)(hkk:kids=(rd_T196 l j).f2)(r:Bool)(hk:∀x∈kids,0≤x∧x<j)(hn:l.length≤300)(hj:j<l.length)(d:Int)(hd0:0≤d)(hd:d≤150)(hl2:kids.length≤2):
   ∀ m,m≤kids.length→∀D:List Int,D.length=l.length→rd D j=d→
     Ev (fun k=>spec_RxOk.l2 k n U (setKids D (kids.drop m) (d+1)) ((j:Int)-1) l) r→Ev (fun k=>spec_RxOk.l3 k n U D j (m:Nat) l) r:=by
 subst hkk;refine down _ _ ?_ ?_
 ·intro D _ _ h
  rw[ev_succ];simp only[spec_RxOk.l3,ev_ite];rw[if_pos (by omega),if_pos (by omega),if_neg (by omega),wrap_id (x:=(j:Int)-1) (by omega) (by omega)];rw[List.drop_length]at h;exact h
 ·intro m hm ih D hD hDj h
  have hx:0≤rd (rd_T196 l j).f2 m∧rd (rd_T196 l j).f2 m<j:=by
   have e:rd (rd_T196 l j).f2 m=(rd_T196 l j).f2[m]:=by unfold rd;rw[List.getD_eq_getElem?_getD,Int.toNat_natCast,List.getElem?_eq_getElem hm];rfl
   rw[e];exact hk _ (List.getElem_mem _)
  rw[drop_cons _ 0 m hm]at h;have hr:(rd_T196 l j).f2.getD m 0=rd (rd_T196 l j).f2 m:=by simp[rd]
  rw[hr]at h;simp only[setKids,List.foldl_cons]at h;rw[ev_succ];simp only[spec_RxOk.l3,ev_ite];rw[if_pos (by omega),if_pos (by omega),if_pos (by omega),if_pos (by omega),if_pos (by omega),if_pos hx.1,if_pos (by omega),wrap_succ hm (by omega),hDj,wrap_id (x:=d+1) (by omega) (by omega)];refine ih _ (by simpa using hD) ?_ h;rw[rd_set _ _ _ _ hx.1 (by omega) (by omega),if_neg (by omega)];exact hDj
theorem spec_RxOk_l2(l:List S196)(h1:1≤l.length)(hn:l.length≤300)(U:List Int)(hU:U.length=l.length)(hok:∀i,i<l.length→nodeAt l i=true)(hUc:∀p:Int,0≤p→rd U p=cntFrom l 0 p):
    ∀j,j≤l.length→∀D:List Int,D.length=l.length→(∀p:Int,0≤p→0≤rd D p∧rd D p≤151)→Ev (fun k=>spec_RxOk.l2 k l.length U D ((j:Int)-1) l) (treeR l j D):=by
  intro j
  induction j with
  | zero=>
    intro _ D hD _;rw[ev_succ];simp only[spec_RxOk.l2,ev_ite,ev_some,treeR];rw[if_neg (by omega)];trivial
  | succ j ih=>
    intro hj D hD hDb;rw[ev_succ];have e:((j+1:Nat):Int)-1=(j:Int):=by omega
    simp only[spec_RxOk.l2,ev_ite,e,treeR];rw[if_pos (by omega),wrap_id (x:=(l.length:Int)-1) (by omega) (by omega)];have hbad:Ev (fun k=>spec_RxOk.j4 k l.length U D j true l) false:=by
     rw[ev_succ];simp only[spec_RxOk.j4,if_true];exact ev_some.2 rfl
    obtain⟨hk2,_,hkl⟩:=node_kids (hok j (by omega));have hD':=hDb (j:Int) (by omega);have hgo:Ev (fun k=>spec_RxOk.j4 k l.length U D j (decide (rd D j>150)) l) (decide (rd D j≤150)&&treeR l j (setKids D (rd_T196 l j).f2 (rd D j+1))):=by
      by_cases h15:rd D j≤150
      · rw[decide_eq_false (show ¬rd D j>150 by omega),decide_eq_true h15,Bool.true_and,ev_succ]
        simp only[spec_RxOk.j4,Bool.false_eq_true,if_false];refine spec_RxOk_l3 l l.length U j _ rfl _ hkl hn (by omega) (rd D j) hD'.1 h15 hk2 0 (by omega) D hD rfl ?_;rw[List.drop_zero];exact ih (by omega) _ (by rw[setKids_length];exact hD) (setKids_le _ _ (by omega) (by omega) D hDb (fun x hx=>by have:=hkl x hx;omega))
      · rw[decide_eq_true (show rd D j>150 by omega),decide_eq_false h15,Bool.false_and]
        exact hbad
    by_cases hlast:j+1=l.length
    ·rw[if_neg (by omega),if_pos (by omega),if_pos (by omega),decide_eq_true hlast,Bool.true_or,Bool.true_and]
     exact hgo
    · rw[if_pos (by omega),if_pos (by omega),if_pos (by omega),decide_eq_false hlast,Bool.false_or,hUc _ (by omega),cntFrom_own l hok j (by omega)]
      by_cases h1c:cntFrom l (j+1) j=1
      · rw[if_pos (by omega),if_pos (by omega),decide_eq_true h1c,Bool.true_and]
        exact hgo
      · rw[if_neg (by omega),decide_eq_false h1c,Bool.false_and,Bool.false_and]
        exact hbad
theorem spec_RxOk_l1(l:List S196)(n:Int)(j:Nat)(kids:List Int)(hkk:kids=(rd_T196 l j).f2)(r:Bool)(hk:∀x∈kids,0≤x∧x<j)(hn:l.length≤300)(hj:j<l.length)(hl2:kids.length≤2):
   ∀ m,m≤kids.length→∀K:List Int,K.length=l.length→(∀p:Int,0≤p→0≤rd K p∧rd K p+(kids.length-m:Nat)≤100000)→
     Ev (fun k=>spec_RxOk.l0 k n (addKids K (kids.drop m)) ((j+1:Nat):Int) l) r→Ev (fun k=>spec_RxOk.l1 k n K j (m:Nat) l) r:=by
 subst hkk;refine down _ _ ?_ ?_
 ·intro K _ _ h
  rw[ev_succ];simp only[spec_RxOk.l1,ev_ite];rw[if_pos (by omega),if_pos (by omega),if_neg (by omega),wrap_succ hj (by omega)];rw[List.drop_length]at h;exact h
 ·intro m hm ih K hK hb h
  have hx:0≤rd (rd_T196 l j).f2 m∧rd (rd_T196 l j).f2 m<j:=by
   have e:rd (rd_T196 l j).f2 m=(rd_T196 l j).f2[m]:=by unfold rd;rw[List.getD_eq_getElem?_getD,Int.toNat_natCast,List.getElem?_eq_getElem hm];rfl
   rw[e];exact hk _ (List.getElem_mem _)
  rw[drop_cons _ 0 m hm]at h;have hr:(rd_T196 l j).f2.getD m 0=rd (rd_T196 l j).f2 m:=by simp[rd]
  rw[hr]at h;simp only[addKids,List.foldl_cons]at h;rw[ev_succ];simp only[spec_RxOk.l1,ev_ite];have hbx:=hb _ hx.1;rw[if_pos (by omega),if_pos (by omega),if_pos (by omega),if_pos (by omega),if_pos hx.1,if_pos (by omega),wrap_succ hm (by omega),wrap_id (x:=rd K (rd (rd_T196 l j).f2 m)+1) (by omega) (by omega)];refine ih _ (by simpa using hK) ?_ h;intro p hp;have:=hb p hp;rw[rd_set _ _ _ _ hx.1 (by omega) hp];split
  ·subst p;omega
  ·omega
theorem spec_RxOk_ev(l:List S196)(hl:l.length≤1048576)(hkl:∀x∈l,x.f2.length≤9223372036854775807):Ev (fun k=>spec_RxOk.f k l) (rxB l):=by
  have hbad:∀n,Ev (fun k=>spec_RxOk.j0 k n true l) false:=by
   intro n;rw[ev_succ];simp only[spec_RxOk.j0,if_true];exact ev_some.2 rfl
  unfold spec_RxOk.f rxB;simp only[ev_ite];by_cases h1:1≤l.length
  · rw [if_neg (by omega)]
    by_cases hn:l.length≤300
    · rw [decide_eq_false (show ¬(l.length:Int)>300 by omega),decide_eq_true h1,decide_eq_true hn,Bool.true_and,Bool.true_and,ev_succ]
      simp only[spec_RxOk.j0,Bool.false_eq_true,if_false,ev_ite];rw[if_pos (by omega),if_pos (by omega),Int.toNat_natCast];have key:=down l.length (fun i=>(∀m,m<i→nodeAt l m=true)→∀U:List Int,U.length=l.length→(∀p:Int,0≤p→rd U p=cntTo l i p)→(∀p:Int,0≤p→cntTo l i p≤2*i)→Ev (fun k=>spec_RxOk.l0 k l.length U (i:Nat) l) (nodesB l l.length&&treeR l l.length (List.replicate l.length 0))) ?_ ?_ 0 (by omega) (fun m hm=>by omega) (List.replicate l.length 0) (by simp) (fun p _=>by rw[rd_replicate];rfl) (fun p _=>by simp[cntTo])
      ·exact key
      · intro hok U hU hUc _
        rw[ev_succ];simp only[spec_RxOk.l0,ev_ite];rw[if_neg (by omega),if_pos (by omega),if_pos (by omega),Int.toNat_natCast,wrap_id (x:=(l.length:Int)-1) (by omega) (by omega),nodesB_of hok,Bool.true_and];exact spec_RxOk_l2 l h1 hn U hU hok (fun p hp=>by rw[hUc p hp,cntTo_all]) l.length (Nat.le_refl _) _ (by simp) (fun p _=>by rw[rd_replicate];omega)
      · intro i hi ih hok U hU hUc hUb
        rw[ev_succ];simp only[spec_RxOk.l0,ev_ite];have hmem:(rd_T196 l i)∈l:=by
          unfold rd_T196;rw[List.getD_eq_getElem?_getD,Int.toNat_natCast,List.getElem?_eq_getElem hi];exact List.getElem_mem _
        rw[if_pos (by omega),if_pos (by omega),if_pos (by omega),ev_bind (spec_l3Node_ev _ _ _ _ _ _ (by omega) (by omega) (hkl _ hmem)),ev_ite];have hnode:nodeB (rd_T196 l i).f0 (rd_T196 l i).f1 (rd_T196 l i).f2 (rd_T196 l i).f3 (rd_T196 l i).f4 i=nodeAt l i:=rfl;rw[hnode];cases hnd:nodeAt l i
        · rw[if_neg (by simp)]
          refine ev_some.2 ?_;cases hall:nodesB l l.length
          ·rfl
          ·rw[nodesB_at hall i hi]at hnd
           exact absurd hnd (by simp)
        · rw[if_pos rfl]
          obtain⟨hk2,_,hkl2⟩:=node_kids hnd;refine spec_RxOk_l1 l l.length i _ rfl _ hkl2 hn hi hk2 0 (by omega) U hU (fun p hp=>by have:=hUc p hp;have:=hUb p hp;omega) ?_;rw[List.drop_zero];refine ih (fun m hm=>?_) _ (by rw[addKids_length];exact hU) (fun p hp=>?_) (fun p hp=>?_)
          ·by_cases e:m=i
           ·subst e;exact hnd
           ·exact hok m (by omega)
          ·rw[addKids_rd _ _ (fun x hx=>by have:=hkl2 x hx;omega) p hp,hUc p hp,cntTo_step l i p hi]
           omega
          ·rw[cntTo_step l i p hi]
           have:=hUb p hp;have:=count_le_two hk2 p;omega
    ·rw[decide_eq_true (show(l.length:Int)>300 by omega),decide_eq_false hn]
     simpa using hbad _
  ·rw[if_pos (by omega),decide_eq_false h1]
   simpa using hbad _
abbrev NB:=Int × List S116
abbrev NR:=Int × Int × NB
def fullN(s:NB):Bool:=fullB s.1 s.2
def edgeN(s:NB)(a b:Int)(c:List S163):NB:=(s.1,s.2++ [⟨a,b,c⟩])
def loopN(op a z:Int)(s:NB):NR:=(s.1,s.1+1,edgeN (if op=7 then(if op=6 then edgeN (s.1+2,s.2) s.1 a []else edgeN (edgeN (s.1+2,s.2) s.1 a []) s.1 (s.1+1) [])else edgeN (if op=6 then edgeN (s.1+2,s.2) s.1 a []else edgeN (edgeN (s.1+2,s.2) s.1 a []) s.1 (s.1+1) []) z a []) z (s.1+1) [])
def joinN(f t:Int)(r:NR):NR:=if f<0 then r else(f,r.2.1,edgeN r.2.2 t r.1 [])
def minI(P:NB→NR):Nat→NR→Bool × NR
 |0,r=>(false,r)
 |m+1,r=>if fullN r.2.2=true then(true,(0,0,r.2.2))else minI P m (joinN r.1 r.2.1 (P r.2.2))
def maxI(P:NB→NR):Nat→NR→NR
 |0,r=>r
 |m+1,r=>if fullN r.2.2=true then r else maxI P m (joinN r.1 r.2.1 (loopN 7 (P r.2.2).1 (P r.2.2).2.1 (P r.2.2).2.2))
def restI(P:NB→NR)(mx:Int)(r:NR):NR:=if mx<0 then joinN r.1 r.2.1 (loopN 5 (P r.2.2).1 (P r.2.2).2.1 (P r.2.2).2.2)else r
def timesI(P:NB→NR)(mn mx:Int)(s:NB):NR:=
 if(minI P mn.toNat (-1, -1,s)).1=true then(minI P mn.toNat (-1, -1,s)).2 else maxI P (mx-mn).toNat (restI P mx (minI P mn.toNat (-1, -1,s)).2)
def timesL(P:NB→NR)(mn op:Int):Nat→Int→NR→NR
 |0,_,r=>r
 |m+1,i,r=>if fullN r.2.2=true then r else timesL P mn op m (i+1) (joinN r.1 r.2.1 (if i≥mn then loopN op (P r.2.2).1 (P r.2.2).2.1 (P r.2.2).2.2 else P r.2.2))
def loopOp(mx:Int):Int:=if mx<0 then 5 else 7
def manyS(mn mx:Int):Int:=if mx<0 then mn+1 else mx
def timesS(P:NB→NR)(mn mx:Int)(s:NB):NR:=
 (max 0 (timesL P mn (loopOp mx) (manyS mn mx).toNat 0 (-1, -1,s)).1,max 0 (timesL P mn (loopOp mx) (manyS mn mx).toNat 0 (-1, -1,s)).2.1,(timesL P mn (loopOp mx) (manyS mn mx).toNat 0 (-1, -1,s)).2.2)
def catN(q u:NR):NR:=(q.1,u.2.1,edgeN u.2.2 q.2.1 u.1 [])
def altN(q u:NR):NR:=(u.2.2.1,u.2.2.1+1,edgeN (edgeN (edgeN (edgeN (u.2.2.1+2,u.2.2.2) u.2.2.1 q.1 []) u.2.2.1 u.1 []) q.2.1 (u.2.2.1+1) []) u.2.1 (u.2.2.1+1) [])
def setN(c:List S163)(s:NB):NR:=(s.1,s.1+1,edgeN (s.1+2,s.2) s.1 (s.1+1) c)
def partN(tm:(NB→NR)→Int→Int→NB→NR)(l:List S196):Nat→Int→NB→NR
  |0,_,s=>(0,0,s)
  | k+1,i,s=>
    if fullN s=true then(0,0,s)
    else if(rd_T196 l i).f0=1∨(rd_T196 l i).f0=2 then setN (rd_T196 l i).f1 s
    else if(rd_T196 l i).f0=3 then catN (partN tm l k (rd (rd_T196 l i).f2 0) s) (partN tm l k (rd (rd_T196 l i).f2 1) (partN tm l k (rd (rd_T196 l i).f2 0) s).2.2)
    else if(rd_T196 l i).f0=4 then altN (partN tm l k (rd (rd_T196 l i).f2 0) s) (partN tm l k (rd (rd_T196 l i).f2 1) (partN tm l k (rd (rd_T196 l i).f2 0) s).2.2)
    else if(rd_T196 l i).f0=8 then tm (partN tm l k (rd (rd_T196 l i).f2 0)) (rd_T196 l i).f3 (rd_T196 l i).f4 s
    else loopN (rd_T196 l i).f0 (partN tm l k (rd (rd_T196 l i).f2 0) s).1 (partN tm l k (rd (rd_T196 l i).f2 0) s).2.1 (partN tm l k (rd (rd_T196 l i).f2 0) s).2.2
def Ag(r q:NR):Prop:=r=q∨(fullN r.2.2=true∧fullN q.2.2=true)
theorem full_iff(s:NB):fullN s=true↔s.1>3000∨(s.2.length:Int)>12000:=by simp[fullN,fullB]
theorem full_edge{s:NB}(h:fullN s=true)(a b:Int)(c:List S163):fullN (edgeN s a b c)=true:=by
 rw[full_iff]at h ⊢;simp only[edgeN,List.length_append,List.length_singleton];omega
theorem full_two{s:NB}(h:fullN s=true):fullN (s.1+2,s.2)=true:=by
 rw[full_iff]at h ⊢;dsimp only;omega
theorem full_loop{s:NB}(h:fullN s=true)(op a z:Int):fullN (loopN op a z s).2.2=true:=by
 unfold loopN;refine full_edge ?_ _ _ _;split
 ·split
  ·exact full_edge (full_two h) _ _ _
  ·exact full_edge (full_edge (full_two h) _ _ _) _ _ _
 ·refine full_edge ?_ _ _ _
  split
  ·exact full_edge (full_two h) _ _ _
  ·exact full_edge (full_edge (full_two h) _ _ _) _ _ _
theorem full_join{r:NR}(h:fullN r.2.2=true)(f t:Int):fullN (joinN f t r).2.2=true:=by
 unfold joinN;split
 ·exact h
 ·exact full_edge h _ _ _
theorem full_part(tm:(NB→NR)→Int→Int→NB→NR)(l:List S196)(k:Nat)(i:Int){s:NB}(h:fullN s=true):partN tm l k i s=(0,0,s):=by
 cases k with
 |zero=>rfl
 |succ k=>simp only[partN,h,if_true]
theorem full_minI(P:NB→NR):∀(m:Nat) (r:NR),fullN r.2.2=true→fullN (minI P m r).2.2.2=true
 |0,r,h=>h
 |m+1,r,h=>by simp only[minI,h,if_true]
theorem full_maxI(P:NB→NR):∀(m:Nat) (r:NR),fullN r.2.2=true→fullN (maxI P m r).2.2=true
 |0,r,h=>h
 |m+1,r,h=>by simp only[maxI,h,if_true]
theorem full_timesL(P:NB→NR)(mn op:Int):∀(m:Nat) (i:Int) (r:NR),fullN r.2.2=true→fullN (timesL P mn op m i r).2.2=true
 |0,_,r,h=>h
 |m+1,i,r,h=>by simp only[timesL,h,if_true]
theorem min_ag{P1 P2:NB→NR}(h:∀s:NB,0≤s.1→Ag (P1 s) (P2 s))(hn:∀s:NB,0≤s.1→0≤(P1 s).2.2.1)(mn op:Int)(rest:Nat):∀(m:Nat) (i:Int) (r:NR),0≤r.2.2.1→i+m=mn→
    ((minI P1 m r).1=false∧timesL P2 mn op (rest+m) i r=timesL P2 mn op rest mn (minI P1 m r).2)∨(fullN (minI P1 m r).2.2.2=true∧fullN (timesL P2 mn op (rest+m) i r).2.2=true)
  |0,i,r,_,hi=> .inl ⟨rfl,by rw[show i=mn by omega];rfl⟩
  | m + 1,i,r,h0,hi=>by
    cases hf:fullN r.2.2
    · have e1:minI P1 (m+1) r=minI P1 m (joinN r.1 r.2.1 (P1 r.2.2)):=by simp[minI,hf]
      have e2:timesL P2 mn op (rest+(m+1)) i r=timesL P2 mn op (rest+m) (i+1) (joinN r.1 r.2.1 (P2 r.2.2)):=by
        rw[←Nat.add_assoc];simp only[timesL,hf,Bool.false_eq_true,if_false];rw[if_neg (by omega)]
      rw[e1,e2];have hj:0≤(joinN r.1 r.2.1 (P1 r.2.2)).2.2.1:=by
        have:=hn r.2.2 h0;unfold joinN;split
        ·exact this
        ·exact this
      rcases h r.2.2 h0 with h1| ⟨h1,h2⟩
      · rw[←h1]
        exact min_ag h hn mn op rest m (i+1) _ hj (by omega)
      ·exact .inr ⟨full_minI P1 m _ (full_join h1 _ _),full_timesL P2 mn op _ _ _ (full_join h2 _ _)⟩
    ·refine .inr ⟨full_minI P1 _ _ hf,full_timesL P2 mn op _ _ _ hf⟩
theorem max_ag{P1 P2:NB→NR}(h:∀s:NB,0≤s.1→Ag (P1 s) (P2 s))(hn:∀s:NB,0≤s.1→0≤(P1 s).2.2.1)(mn:Int):∀(m:Nat) (i:Int) (r:NR),0≤r.2.2.1→mn≤i→Ag (maxI P1 m r) (timesL P2 mn 7 m i r)
  |0,i,r,_,hi=> .inl rfl
  | m + 1,i,r,h0,hi=>by
    cases hf:fullN r.2.2
    · simp only[maxI,timesL,hf,Bool.false_eq_true,if_false]
      rw [if_pos hi];have hj:0≤(joinN r.1 r.2.1 (loopN 7 (P1 r.2.2).1 (P1 r.2.2).2.1 (P1 r.2.2).2.2)).2.2.1:=by
        have:=hn r.2.2 h0;have e:0≤(loopN 7 (P1 r.2.2).1 (P1 r.2.2).2.1 (P1 r.2.2).2.2).2.2.1:=by
          simp only[loopN,edgeN,if_true];split<;>(simp only[];omega)
        unfold joinN;split
        ·exact e
        ·exact e
      rcases h r.2.2 h0 with h1| ⟨h1,h2⟩
      · rw[←h1]
        exact max_ag h hn mn m (i+1) _ hj (by omega)
      ·exact .inr ⟨full_maxI P1 m _ (full_join (full_loop h1 _ _ _) _ _),full_timesL P2 mn 7 _ _ _ (full_join (full_loop h2 _ _ _) _ _)⟩
    ·exact .inr ⟨full_maxI P1 _ _ hf,full_timesL P2 mn 7 _ _ _ hf⟩
theorem loop_pos(op a z:Int)(s:NB)(h:0≤s.1):0≤(loopN op a z s).1∧0≤(loopN op a z s).2.1∧0≤(loopN op a z s).2.2.1:=by
 unfold loopN;refine⟨h,by dsimp only;omega,?_⟩;simp only[edgeN];split<;>split<;>(simp only[];omega)
theorem join_pos{f t:Int}{r:NR}(h:0≤r.1∧0≤r.2.1∧0≤r.2.2.1)(hf:f<0∨0≤f):0≤(joinN f t r).1∧0≤(joinN f t r).2.1∧0≤(joinN f t r).2.2.1:=by
 unfold joinN;split
 ·exact h
 ·exact⟨by dsimp only;omega,h.2.1,h.2.2⟩
def PosP(P:NB→NR):Prop:=∀s:NB,0≤s.1→0≤(P s).1∧0≤(P s).2.1∧0≤(P s).2.2.1
theorem timesL_pos{P:NB→NR}(hP:PosP P)(mn op:Int):∀(m:Nat) (i:Int) (r:NR),0≤r.1→0≤r.2.1→0≤r.2.2.1→0≤(timesL P mn op m i r).1∧0≤(timesL P mn op m i r).2.1∧0≤(timesL P mn op m i r).2.2.1
  |0,_,r,h0,h1,h2=>⟨h0,h1,h2⟩
  | m + 1,i,r,h0,h1,h2=>by
    cases hf:fullN r.2.2
    · simp only[timesL,hf,Bool.false_eq_true,if_false]
      have hq:=hP r.2.2 h2;have hj:0≤(joinN r.1 r.2.1 (if i≥mn then loopN op (P r.2.2).1 (P r.2.2).2.1 (P r.2.2).2.2 else P r.2.2)).1∧0≤(joinN r.1 r.2.1 (if i≥mn then loopN op (P r.2.2).1 (P r.2.2).2.1 (P r.2.2).2.2 else P r.2.2)).2.1∧0≤(joinN r.1 r.2.1 (if i≥mn then loopN op (P r.2.2).1 (P r.2.2).2.1 (P r.2.2).2.2 else P r.2.2)).2.2.1:=by
        refine join_pos ?_ (.inr h0);split
        ·exact loop_pos _ _ _ _ hq.2.2
        ·exact hq
      exact timesL_pos hP mn op m (i+1) _ hj.1 hj.2.1 hj.2.2
    · simp only[timesL,hf,if_true]
      exact⟨h0,h1,h2⟩
theorem timesL_first{P:NB→NR}(hP:PosP P)(mn op:Int)(m:Nat)(i:Int)(s:NB)(h0:0≤s.1)(hs:fullN s=false):0≤(timesL P mn op (m+1) i (-1, -1,s)).1∧0≤(timesL P mn op (m+1) i (-1, -1,s)).2.1:=by
 simp only[timesL,hs,Bool.false_eq_true,if_false];have hq:=hP s h0;have hj:0≤(joinN (-1) (-1) (if i≥mn then loopN op (P s).1 (P s).2.1 (P s).2.2 else P s)).1∧0≤(joinN (-1) (-1) (if i≥mn then loopN op (P s).1 (P s).2.1 (P s).2.2 else P s)).2.1∧0≤(joinN (-1) (-1) (if i≥mn then loopN op (P s).1 (P s).2.1 (P s).2.2 else P s)).2.2.1:=by
  refine join_pos ?_ (.inl (by omega));split
  ·exact loop_pos _ _ _ _ hq.2.2
  ·exact hq
 have h:=timesL_pos hP mn op m (i+1) _ hj.1 hj.2.1 hj.2.2;exact⟨h.1,h.2.1⟩
theorem timesL_state{P:NB→NR}(hP:PosP P)(mn op:Int):∀(m:Nat) (i:Int) (r:NR),0≤r.2.2.1→0≤(timesL P mn op m i r).2.2.1
  |0,_,r,h2=>h2
  | m + 1,i,r,h2=>by
    cases hf:fullN r.2.2
    · simp only[timesL,hf,Bool.false_eq_true,if_false]
      have hq:=hP r.2.2 h2;refine timesL_state hP mn op m (i+1) _ ?_;have e:0≤(if i≥mn then loopN op (P r.2.2).1 (P r.2.2).2.1 (P r.2.2).2.2 else P r.2.2).2.2.1:=by
        split
        ·exact(loop_pos _ _ _ _ hq.2.2).2.2
        ·exact hq.2.2
      unfold joinN;split
      ·exact e
      ·exact e
    · simp only[timesL,hf,if_true]
      exact h2
theorem times_ag{P1 P2:NB→NR}(h:∀s:NB,0≤s.1→Ag (P1 s) (P2 s))(hn:∀s:NB,0≤s.1→0≤(P1 s).2.2.1)(hP:PosP P2)(hfull1:∀s:NB,fullN s=true→fullN (P1 s).2.2=true)(mn mx:Int)(s:NB)(h0:0≤s.1)(hs:fullN s=false)(hm:0≤mn)(hx:mx= -1∨(mn≤mx∧1≤mx)):
    Ag (timesI P1 mn mx s) (timesS P2 mn mx s):=by
  have key :Ag (timesI P1 mn mx s) (timesL P2 mn (loopOp mx) (manyS mn mx).toNat 0 (-1, -1,s)):=by
    have hmany:(manyS mn mx).toNat=(manyS mn mx-mn).toNat+mn.toNat:=by
     unfold manyS;split<;>omega
    rw [hmany];have hA:=min_ag h hn mn (loopOp mx) ((manyS mn mx-mn).toNat) mn.toNat 0 (-1, -1,s) h0 (by omega);have hst:∀(m:Nat) (r:NR),0≤r.2.2.1→0≤(minI P1 m r).2.2.2.1:=by
      intro m
      induction m with
      |zero=>exact fun r hr=>hr
      | succ m ih=>
        intro r hr;simp only[minI];split
        ·exact hr
        · refine ih _ ?_
          have:=hn r.2.2 hr;unfold joinN;split
          ·exact this
          ·exact this
    have hst2:=hst mn.toNat (-1, -1,s) h0;unfold timesI;rcases hA with⟨e1,e2⟩| ⟨e1,e2⟩
    · rw [e1,if_neg (by simp),e2]
      generalize(minI P1 mn.toNat (-1, -1,s)).2=r at *;by_cases c:mx<0
      · have o1:loopOp mx=5:=if_pos c
        have o2:(manyS mn mx-mn).toNat=1:=by unfold manyS;rw[if_pos c];omega
        have o3:(mx-mn).toNat=0:=by omega
        rw[o1,o2,o3];unfold restI;rw[if_pos c];show Ag (joinN r.1 r.2.1 (loopN 5 (P1 r.2.2).1 (P1 r.2.2).2.1 (P1 r.2.2).2.2)) _
        cases hf:fullN r.2.2
        · simp only[timesL,hf,Bool.false_eq_true,if_false]
          rw[if_pos (by omega)];rcases h r.2.2 hst2 with h1| ⟨h1,h2⟩
          · rw[h1]
            exact .inl rfl
          ·exact .inr ⟨full_join (full_loop h1 _ _ _) _ _,full_join (full_loop h2 _ _ _) _ _⟩
        · simp only[timesL,hf,if_true]
          rcases h r.2.2 hst2 with h1| ⟨h1,h2⟩
          ·exact .inr ⟨full_join (full_loop (hfull1 _ hf) _ _ _) _ _,hf⟩
          ·exact .inr ⟨full_join (full_loop h1 _ _ _) _ _,hf⟩
      · have o1:loopOp mx=7:=if_neg c
        have o2:(manyS mn mx-mn).toNat=(mx-mn).toNat:=by unfold manyS;rw[if_neg c]
        rw[o1,o2];unfold restI;rw[if_neg c];exact max_ag h hn mn _ mn r hst2 (by omega)
    · split
      ·exact .inr ⟨e1,e2⟩
      · refine .inr ⟨full_maxI P1 _ _ ?_,e2⟩
        unfold restI;split
        ·exact full_join (full_loop (hfull1 _ e1) _ _ _) _ _
        ·exact e1
  unfold timesS;rcases key with h1| ⟨h1,h2⟩
  ·obtain⟨m,hm1⟩:∃m,(manyS mn mx).toNat=m+1:=⟨(manyS mn mx).toNat-1,by unfold manyS;split<;>omega⟩
   have hp:=timesL_first hP mn (loopOp mx) m 0 s h0 hs;rw[←hm1]at hp;rw[h1];generalize timesL P2 mn (loopOp mx) (manyS mn mx).toNat 0 (-1, -1,s)=r at *;refine .inl ?_;obtain⟨a,b,c⟩:=r;dsimp only at hp ⊢;rw[Int.max_eq_right hp.1,Int.max_eq_right hp.2]
  ·exact .inr ⟨h1,h2⟩
end Go.Proofs.Ytlecpdpdcocibaa.P
namespace Go.Proofs.Ytlecpdpdcocibaa.P
open Go.RowKit Go.Shelf Go.Proofs.YtlecpdpdcocibaaW.PrintWords Go.Proofs.YtlecpdpdcocibaaW.PrintLast Go.Proofs.YtlecpdpdcocibaaW.PrintMore Go.Proofs.YtlecpdpdcocibaaEv
set_option linter.unusedVariables false
set_option linter.unusedSimpArgs false
theorem loopS_hand{w0:World}(ok:Nat→Prop)(g:Nat)(n op a z:Int)(es:List S116)(en:List S138)(w:World)(hI:BdS 186 w0 w ok g n es en)(hB:Below w0.heap.size w0 w)(hF:∀k,w.heap.size≤k→ok k)(hn:0≤n∧n≤900000)(hl:es.length≤900000):
   Calls Try.prog 147 #[.pointer (some ⟨g,0,none⟩), .int .i64 op, .int .i64 a, .int .i64 z] w fun e w'=>e= .returned (.tuple #[.int .i64 (loopN op a z (n,es)).1, .int .i64 (loopN op a z (n,es)).2.1])∧BdS 186 w0 w' ok g (loopN op a z (n,es)).2.2.1 (loopN op a z (n,es)).2.2.2 en∧Below w0.heap.size w0 w'∧KeepB w w' ok g:=by
 have FR:=q_ (FrB.here hI hB);have FR0:=q_ hF;have T1:J0 True:=⟨trivial⟩;have T2:J0 True:=⟨trivial⟩;clear hI hB hF;by_cases c6:op=6
 ·have e6:(op != 6)=false:=bne_eq_false_iff_eq.mpr c6
  have e7:(op != 7)=true:=bne_iff_ne.mpr (by omega);obtain⟨L,hL⟩:∃L,L=loopN op a z (n,es):=⟨_,rfl⟩;rw[←hL];unfold loopN at hL;rw[if_neg (show ¬op=7 by omega),if_pos c6]at hL;have HL:=q_ hL;clear hL c6;go_enter Try.func147,Try.ntmps147
  go_wp2_with(first
   | (go_at_call 145;clear T1;(with_reducible refine(stateS_hand ok g _ _ en _ FR.o.st FR.o.lo (by omega)).mono ?_);rintro e w7 ⟨rfl,hI,hB,hK⟩;replace FR:=q_ (FR.o.call hI hB hK);clear hI hB hK)
   | (go_at_call 145;clear T2;(with_reducible refine(stateS_hand ok g _ _ en _ FR.o.st FR.o.lo (by omega)).mono ?_);rintro e w7 ⟨rfl,hI,hB,hK⟩;replace FR:=q_ (FR.o.call hI hB hK);clear hI hB hK)
   | (go_at_call 135;refine(edgeS_hand ok g _ _ _ _ en none 0 [] _ FR.o.st FR.o.lo (FR.o.fr FR0.o) (Kd.C_nil _ _) (Nat.le_refl _) (by simp) (by first|omega| (simp;omega))).mono ?_;rintro e w7 ⟨rfl,hI,hB,hK⟩;replace FR:=q_ (FR.o.call hI hB hK);clear hI hB hK))
  go_ret2
  rw[HL.o];have e2:n+1+1=n+2:=by omega
  rw[e2]at FR;exact⟨rfl,FR.o.fin0⟩
 by_cases c7:op=7
 ·have e6:(op != 6)=true:=bne_iff_ne.mpr c6
  have e7:(op != 7)=false:=bne_eq_false_iff_eq.mpr c7;obtain⟨L,hL⟩:∃L,L=loopN op a z (n,es):=⟨_,rfl⟩;rw[←hL];unfold loopN at hL;rw[if_pos c7,if_neg c6]at hL;have HL:=q_ hL;clear hL c6 c7;go_enter Try.func147,Try.ntmps147
  go_wp2_with(first
   | (go_at_call 145;clear T1;(with_reducible refine(stateS_hand ok g _ _ en _ FR.o.st FR.o.lo (by omega)).mono ?_);rintro e w7 ⟨rfl,hI,hB,hK⟩;replace FR:=q_ (FR.o.call hI hB hK);clear hI hB hK)
   | (go_at_call 145;clear T2;(with_reducible refine(stateS_hand ok g _ _ en _ FR.o.st FR.o.lo (by omega)).mono ?_);rintro e w7 ⟨rfl,hI,hB,hK⟩;replace FR:=q_ (FR.o.call hI hB hK);clear hI hB hK)
   | (go_at_call 135;refine(edgeS_hand ok g _ _ _ _ en none 0 [] _ FR.o.st FR.o.lo (FR.o.fr FR0.o) (Kd.C_nil _ _) (Nat.le_refl _) (by simp) (by first|omega| (simp;omega))).mono ?_;rintro e w7 ⟨rfl,hI,hB,hK⟩;replace FR:=q_ (FR.o.call hI hB hK);clear hI hB hK))
  go_ret2
  rw[HL.o];have e2:n+1+1=n+2:=by omega
  rw[e2]at FR;exact⟨rfl,FR.o.fin0⟩
 ·have e6:(op != 6)=true:=bne_iff_ne.mpr c6
  have e7:(op != 7)=true:=bne_iff_ne.mpr c7;obtain⟨L,hL⟩:∃L,L=loopN op a z (n,es):=⟨_,rfl⟩;rw[←hL];unfold loopN at hL;rw[if_neg c7,if_neg c6]at hL;have HL:=q_ hL;clear hL c6 c7;go_enter Try.func147,Try.ntmps147
  go_wp2_with(first
   | (go_at_call 145;clear T1;(with_reducible refine(stateS_hand ok g _ _ en _ FR.o.st FR.o.lo (by omega)).mono ?_);rintro e w7 ⟨rfl,hI,hB,hK⟩;replace FR:=q_ (FR.o.call hI hB hK);clear hI hB hK)
   | (go_at_call 145;clear T2;(with_reducible refine(stateS_hand ok g _ _ en _ FR.o.st FR.o.lo (by omega)).mono ?_);rintro e w7 ⟨rfl,hI,hB,hK⟩;replace FR:=q_ (FR.o.call hI hB hK);clear hI hB hK)
   | (go_at_call 135;refine(edgeS_hand ok g _ _ _ _ en none 0 [] _ FR.o.st FR.o.lo (FR.o.fr FR0.o) (Kd.C_nil _ _) (Nat.le_refl _) (by simp) (by first|omega| (simp;omega))).mono ?_;rintro e w7 ⟨rfl,hI,hB,hK⟩;replace FR:=q_ (FR.o.call hI hB hK);clear hI hB hK))
  go_ret2
  rw[HL.o];have e2:n+1+1=n+2:=by omega
  rw[e2]at FR;exact⟨rfl,FR.o.fin0⟩
end Go.Proofs.Ytlecpdpdcocibaa.P
namespace Go.Proofs.Ytlecpdpdcocibaa.P
open Go.RowKit Go.Proofs.YtlecpdpdcocibaaW.PrintWords Go.Proofs.YtlecpdpdcocibaaW.PrintLast Go.Proofs.YtlecpdpdcocibaaW.PrintMore Go.Proofs.YtlecpdpdcocibaaEv
set_option linter.unusedVariables false
set_option linter.unusedSimpArgs false
theorem rd_in(l:List Int)(i:Nat)(h:i<l.length):rd l (i:Int)∈l:=by
 unfold rd;rw[List.getD_eq_getElem?_getD,Int.toNat_natCast,List.getElem?_eq_getElem h];exact List.getElem_mem _
theorem node_ops{nodes:List S196}{k:Nat}(h:nodeAt nodes k=true):((rd_T196 nodes (k:Int)).f0=1∨(rd_T196 nodes (k:Int)).f0=2)∨
   (((rd_T196 nodes (k:Int)).f0=3∨(rd_T196 nodes (k:Int)).f0=4)∧(rd_T196 nodes (k:Int)).f2.length=2)∨
   (((rd_T196 nodes (k:Int)).f0=5∨(rd_T196 nodes (k:Int)).f0=6∨(rd_T196 nodes (k:Int)).f0=7∨(rd_T196 nodes (k:Int)).f0=8)∧(rd_T196 nodes (k:Int)).f2.length=1):=by
 obtain⟨_,h1,_⟩:=node_kids h;unfold kidsN at h1;split at h1
 ·exact .inl ‹_›
 ·split at h1
  ·exact .inr (.inl ⟨‹_›,by omega⟩)
  ·split at h1
   ·exact .inr (.inr ⟨‹_›,by omega⟩)
   ·omega
theorem node_kid{nodes:List S196}{k:Nat}(h:nodeAt nodes k=true)(i:Nat)(hi:i<(rd_T196 nodes (k:Int)).f2.length):rd (rd_T196 nodes (k:Int)).f2 (i:Int)=(((rd (rd_T196 nodes (k:Int)).f2 (i:Int)).toNat:Nat):Int)∧(rd (rd_T196 nodes (k:Int)).f2 (i:Int)).toNat<k:=by
 obtain⟨_,_,h2⟩:=node_kids h;have:=h2 _ (rd_in _ i hi);omega
theorem node_set_few{nodes:List S196}{k:Nat}(h:nodeAt nodes k=true):(rd_T196 nodes (k:Int)).f1.length≤128:=by
 unfold nodeAt nodeB at h;simp only[Bool.and_eq_true]at h;have h2:=h.1.2;split at h2
 ·simp only[Bool.and_eq_true]at h2
  exact classB_few h2.1
 ·have:=ot_ h2
  omega
def StP(P:NB→NR):Prop:=∀s:NB,0≤s.1→0≤(P s).2.2.1
theorem join_st{f t:Int}{r:NR}(h:0≤r.2.2.1):0≤(joinN f t r).2.2.1:=by
 unfold joinN;split
 ·exact h
 ·exact h
theorem loop_st{op a z:Int}{s:NB}(h:0≤s.1):0≤(loopN op a z s).2.2.1:=(loop_pos op a z s h).2.2
theorem minI_st{P:NB→NR}(hP:StP P):∀(m:Nat) (r:NR),0≤r.2.2.1→0≤(minI P m r).2.2.2.1
 |0,r,h=>h
 | m+1,r,h=>by
   simp only[minI];split
   ·exact h
   ·exact minI_st hP m _ (join_st (hP _ h))
theorem maxI_st{P:NB→NR}(hP:StP P):∀(m:Nat) (r:NR),0≤r.2.2.1→0≤(maxI P m r).2.2.1
 |0,r,h=>h
 | m+1,r,h=>by
   simp only[maxI];split
   ·exact h
   ·exact maxI_st hP m _ (join_st (loop_st (hP _ h)))
theorem timesI_st{P:NB→NR}(hP:StP P)(mn mx:Int)(s:NB)(h:0≤s.1):0≤(timesI P mn mx s).2.2.1:=by
 have h1:=minI_st hP mn.toNat (-1, -1,s) h;unfold timesI;split
 ·exact h1
 ·refine maxI_st hP _ _ ?_
  unfold restI;split
  ·exact join_st (loop_st (hP _ h1))
  ·exact h1
theorem partI_st(l:List S196):∀(k:Nat) (i:Int),StP (partN timesI l k i)
 |0,_,s,h=>h
 | k + 1,i,s,h=>by
   have ih:=partI_st l k;simp only[partN];split
   ·exact h
   split
   ·show 0≤s.1+2;omega
   split
   ·exact ih _ _ (ih _ _ h)
   split
   · show 0≤(partN timesI l k _ _).2.2.1+2
     have:=ih (rd (rd_T196 l i).f2 1) _ (ih (rd (rd_T196 l i).f2 0) s h);omega
   split
   ·exact timesI_st (ih _) _ _ s h
   ·exact loop_st (ih _ _ h)
theorem partS_pos(l:List S196):∀(k:Nat) (i:Int),PosP (partN timesS l k i)
 |0,_,s,h=>⟨Int.le_refl _,Int.le_refl _,h⟩
 | k+1,i,s,h=>by
   have ih:=partS_pos l k;simp only[partN];split
   ·exact⟨Int.le_refl _,Int.le_refl _,h⟩
   split
   ·exact⟨h,(by show 0≤s.1+1;omega),(by show 0≤s.1+2;omega)⟩
   have q:=ih (rd (rd_T196 l i).f2 0) s h;have u:=ih (rd (rd_T196 l i).f2 1) _ q.2.2;split
   ·exact⟨q.1,u.2.1,u.2.2⟩
   split
   ·exact⟨u.2.2,(by show 0≤(partN timesS l k _ _).2.2.1+1;omega),(by show 0≤(partN timesS l k _ _).2.2.1+2;omega)⟩
   split
   ·exact⟨Int.le_max_left _ _,Int.le_max_left _ _,timesL_state (ih _) _ _ _ _ _ h⟩
   ·exact loop_pos _ _ _ _ q.2.2
theorem node_counts{l:List S196}{j:Nat}(h:nodeAt l j=true)(h8:(rd_T196 l (j:Int)).f0=8):0≤(rd_T196 l (j:Int)).f3∧(rd_T196 l (j:Int)).f3≤30∧((rd_T196 l (j:Int)).f4= -1∨((rd_T196 l (j:Int)).f3≤(rd_T196 l (j:Int)).f4∧1≤(rd_T196 l (j:Int)).f4))∧(rd_T196 l (j:Int)).f4≤30:=by
 unfold nodeAt nodeB at h;simp only[Bool.and_eq_true,h8,if_true]at h;have h2:=h.2;unfold timesB at h2;simp only[Bool.and_eq_true,Bool.or_eq_true,decide_eq_true_eq,Bool.not_eq_true',decide_eq_false_iff_not]at h2;omega
theorem part_ag(l:List S196)(hok:∀j,j<l.length→nodeAt l j=true):∀(k j:Nat) (s:NB),j<l.length→0≤s.1→Ag (partN timesI l k (j:Int) s) (partN timesS l k (j:Int) s)
  |0,_,_,_,_=> .inl rfl
  | k + 1, j,s,hj,h0=>by
    cases hf:fullN s;rotate_left
    · rw[full_part _ _ _ _ hf,full_part _ _ _ _ hf]
      exact .inl rfl
    have kid:∀i:Nat,i<(rd_T196 l (j:Int)).f2.length→∀s:NB,0≤s.1→Ag (partN timesI l k (rd (rd_T196 l (j:Int)).f2 (i:Int)) s) (partN timesS l k (rd (rd_T196 l (j:Int)).f2 (i:Int)) s):=by
      intro i hi s hs;obtain⟨h1,h2⟩:=node_kid (hok j hj) i hi;rw[h1];exact part_ag l hok k _ s (by omega) hs
    have k0:=kid 0;have k1:=kid 1;simp only[Int.ofNat_zero,Int.natCast_one,Int.cast_ofNat_Int]at k0 k1;have hst:=partI_st l k (rd (rd_T196 l (j:Int)).f2 0);have hfl:∀(i:Int) (s:NB),fullN s=true→fullN (partN timesI l k i s).2.2=true:=fun i s h=>by rw[full_part _ _ _ _ h];exact h
    have hfl2:∀(i:Int) (s:NB),fullN s=true→fullN (partN timesS l k i s).2.2=true:=fun i s h=>by rw[full_part _ _ _ _ h];exact h
    simp only[partN,hf,Bool.false_eq_true,if_false];have two:1<(rd_T196 l (j:Int)).f2.length→(partN timesI l k (rd (rd_T196 l (j:Int)).f2 0) s=partN timesS l k (rd (rd_T196 l (j:Int)).f2 0) s∧partN timesI l k (rd (rd_T196 l (j:Int)).f2 1) (partN timesI l k (rd (rd_T196 l (j:Int)).f2 0) s).2.2=partN timesS l k (rd (rd_T196 l (j:Int)).f2 1) (partN timesS l k (rd (rd_T196 l (j:Int)).f2 0) s).2.2)∨
        (fullN (partN timesI l k (rd (rd_T196 l (j:Int)).f2 1) (partN timesI l k (rd (rd_T196 l (j:Int)).f2 0) s).2.2).2.2=true∧fullN (partN timesS l k (rd (rd_T196 l (j:Int)).f2 1) (partN timesS l k (rd (rd_T196 l (j:Int)).f2 0) s).2.2).2.2=true):=by
      intro hl;have a:=hst s h0;rcases k0 (by omega) s h0 with h1| ⟨h1,h2⟩
      · rw[←h1]
        rcases k1 hl _ a with h3|h3
        ·exact .inl ⟨rfl,h3⟩
        ·exact .inr h3
      ·exact .inr ⟨hfl _ _ h1,hfl2 _ _ h2⟩
    rcases node_ops (hok j hj)with(h|h)| ⟨h|h,hl⟩| ⟨h|h|h|h,hl⟩
    ·rw[if_pos (.inl h),if_pos (.inl h)];exact .inl rfl
    ·rw[if_pos (.inr h),if_pos (.inr h)];exact .inl rfl
    · simp only[h]
      rcases two (by omega)with⟨h1,h2⟩| ⟨h1,h2⟩
      · refine .inl ?_
        simp only[show ¬((3:Int)=1∨(3:Int)=2) by omega,if_false,if_true];rw[h2,h1]
      · refine .inr ?_
        simp only[show ¬((3:Int)=1∨(3:Int)=2) by omega,if_false,if_true];exact⟨full_edge h1 _ _ _,full_edge h2 _ _ _⟩
    · simp only[h]
      rcases two (by omega)with⟨h1,h2⟩| ⟨h1,h2⟩
      · refine .inl ?_
        simp only[show ¬((4:Int)=1∨(4:Int)=2) by omega,show ¬(4:Int)=3 by omega,if_false,if_true];rw[h2,h1]
      · refine .inr ?_
        simp only[show ¬((4:Int)=1∨(4:Int)=2) by omega,show ¬(4:Int)=3 by omega,if_false,if_true];exact⟨full_edge (full_edge (full_edge (full_edge (full_two h1) _ _ _) _ _ _) _ _ _) _ _ _,full_edge (full_edge (full_edge (full_edge (full_two h2) _ _ _) _ _ _) _ _ _) _ _ _⟩
    all_goals first
      | (have h8:(rd_T196 l (j:Int)).f0=8:=h
         have ht:=node_counts (hok j hj) h8;simp only[h8,show ¬((8:Int)=1∨(8:Int)=2) by omega,show ¬(8:Int)=3 by omega,show ¬(8:Int)=4 by omega,if_false,if_true];exact times_ag (fun s hs=>k0 (by omega) s hs) hst (partS_pos l k _) (fun s hs=>hfl _ s hs) _ _ s h0 hf ht.1 ht.2.2.1)
      | (rw[if_neg (by omega),if_neg (by omega),if_neg (by omega),if_neg (by omega),if_neg (by omega),if_neg (by omega),if_neg (by omega),if_neg (by omega)]
         rcases k0 (by omega) s h0 with h1| ⟨h1,h2⟩
         · rw[h1]
           exact .inl rfl
         ·exact .inr ⟨full_loop h1 _ _ _,full_loop h2 _ _ _⟩)
def Bn(c:Nat)(s:NB):Prop:=0≤s.1∧s.1≤10000+c∧s.2.length≤20000+c
theorem Bn.le{c d:Nat}{s:NB}(h:Bn c s)(hd:c≤d):Bn d s:=⟨h.1,by have:=h.2.1;omega,by have:=h.2.2;omega⟩
theorem Bn.small{s:NB}(h:0≤s.1)(hf:fullN s=false):Bn 0 s:=by
 have:¬(s.1>3000∨(s.2.length:Int)>12000):=fun h=>by rw[(full_iff s).2 h]at hf;cases hf
 exact⟨h,by omega,by omega⟩
theorem Bn.edge{c:Nat}{s:NB}(h:Bn c s)(a b:Int)(x:List S163):Bn (c+1) (edgeN s a b x):=by
 obtain⟨h1,h2,h3⟩:=h;exact⟨h1,by show s.1≤_;omega,by simp only[edgeN,List.length_append,List.length_singleton];omega⟩
theorem Bn.two{c:Nat}{s:NB}(h:Bn c s):Bn (c+2) (s.1+2,s.2):=⟨by have:=h.1;show 0≤s.1+2;omega,by have:=h.2.1;show s.1+2≤_;omega,by have:=h.2.2;show s.2.length≤_;omega⟩
theorem Bn.loop{c:Nat}{s:NB}(h:Bn c s)(op a z:Int):Bn (c+6) (loopN op a z s).2.2:=by
 unfold loopN;refine Bn.edge (c:=c+5) ?_ _ _ _;have h1:=(h.two.edge s.1 a []).le (show c+2+1≤c+3 by omega);have h2:=(h1.edge s.1 (s.1+1) []).le (show c+3+1≤c+4 by omega);split
 ·split
  ·exact h1.le (by omega)
  ·exact h2.le (by omega)
 ·refine(Bn.edge (c:=c+4) ?_ _ _ _).le (by omega)
  split
  ·exact h1.le (by omega)
  ·exact h2
theorem Bn.join{c:Nat}{r:NR}(h:Bn c r.2.2)(f t:Int):Bn (c+1) (joinN f t r).2.2:=by
 unfold joinN;split
 ·exact h.le (by omega)
 ·exact h.edge _ _ _
def BnP(C:Nat)(P:NB→NR):Prop:=∀(c:Nat) (s:NB),Bn c s→Bn (max c C) (P s).2.2
theorem timesL_bn{C:Nat}{P:NB→NR}(hP:BnP C P)(mn op:Int):∀(m:Nat) (i:Int) (r:NR),Bn (C+8) r.2.2→Bn (C+8) (timesL P mn op m i r).2.2
 |0,_,r,h=>h
 | m + 1,i,r,h=>by
   cases hf:fullN r.2.2
   · simp only[timesL,hf,Bool.false_eq_true,if_false]
     refine timesL_bn hP mn op m _ _ ?_;have:=(hP 0 _ (Bn.small h.1 hf)).le (show max 0 C≤C by omega);split
     ·exact((this.loop _ _ _).join _ _).le (by omega)
     ·exact(this.join _ _).le (by omega)
   · simp only[timesL,hf,if_true]
     exact h
theorem timesS_bn{C:Nat}{P:NB→NR}(hP:BnP C P)(mn mx:Int)(s:NB)(h:Bn 0 s):Bn (C+8) (timesS P mn mx s).2.2:=timesL_bn hP _ _ _ _ _ (h.le (by omega))
theorem part_bn(tm:(NB→NR)→Int→Int→NB→NR)(htm:∀(C:Nat) (P:NB→NR),BnP C P→∀(mn mx:Int) (s:NB),Bn 0 s→Bn (C+8) (tm P mn mx s).2.2)(l:List S196):∀(k:Nat) (i:Int),BnP (16*k) (partN tm l k i)
 |0,_,c,s,h=>h.le (by omega)
 | k + 1,i,c,s,h=>by
   have ih:=part_bn tm htm l k;cases hf:fullN s;rotate_left
   · rw[full_part _ _ _ _ hf]
     exact h.le (by omega)
   have h0:=Bn.small h.1 hf;have q:=(ih (rd (rd_T196 l i).f2 0) 0 s h0).le (show max 0 (16*k)≤16*k by omega);have u:=(ih (rd (rd_T196 l i).f2 1) (16*k) _ q).le (show max (16*k) (16*k)≤16*k by omega);simp only[partN,hf,Bool.false_eq_true,if_false];split
   ·exact(h0.two.edge _ _ _).le (by omega)
   split
   ·exact(u.edge _ _ _).le (by omega)
   split
   ·exact((((u.two.edge _ _ _).edge _ _ _).edge _ _ _).edge _ _ _).le (by omega)
   split
   ·exact(htm _ _ (ih _) _ _ s h0).le (by omega)
   ·exact(q.loop _ _ _).le (by omega)
theorem partS_bn(l:List S196)(k:Nat)(i:Int):BnP (16*k) (partN timesS l k i):=part_bn timesS (fun _ _ hP mn mx s h=>timesS_bn hP mn mx s h) l k i
def stepN(tm:(NB→NR)→Int→Int→NB→NR)(x:S196)(P0 P1:NB→NR)(s:NB):NR:=
 if x.f0=1∨x.f0=2 then setN x.f1 s
 else if x.f0=3 then catN (P0 s) (P1 (P0 s).2.2)
 else if x.f0=4 then altN (P0 s) (P1 (P0 s).2.2)
 else if x.f0=8 then tm P0 x.f3 x.f4 s
 else loopN x.f0 (P0 s).1 (P0 s).2.1 (P0 s).2.2
theorem partN_succ(tm:(NB→NR)→Int→Int→NB→NR)(l:List S196)(k:Nat)(i:Int){s:NB}(h:fullN s=false):partN tm l (k+1) i s=stepN tm (rd_T196 l i) (partN tm l k (rd (rd_T196 l i).f2 0)) (partN tm l k (rd (rd_T196 l i).f2 1)) s:=by
 simp only[partN,h,Bool.false_eq_true,if_false,stepN]
end Go.Proofs.Ytlecpdpdcocibaa.P
namespace Go.Proofs.Ytlecpdpdcocibaa.P
open Go.RowKit Go.Shelf Go.Proofs.YtlecpdpdcocibaaW.PrintWords Go.Proofs.YtlecpdpdcocibaaW.PrintLast Go.Proofs.YtlecpdpdcocibaaW.PrintMore Go.Proofs.YtlecpdpdcocibaaEv
set_option linter.unusedVariables false
set_option linter.unusedSimpArgs false
def PartC(F T:Nat)(w0:World)(A:Option Addr)(c:Nat)(l:List S196)(i:Int)(P:NB→NR):Prop:=
  ∀ (ok:Nat→Prop) (g:Nat) (n:Int) (es:List S116) (en:List S138) (w:World),BdS T w0 w ok g n es en→Below w0.heap.size w0 w→(∀k,w.heap.size≤k→ok k)→Bn 60000 (n,es)→
    Calls Try.prog F #[.pointer (some ⟨g,0,none⟩), .agg #[.slice A l.length c], .int .i64 i] w fun e w'=>e= .returned (.tuple #[.int .i64 (P (n,es)).1, .int .i64 (P (n,es)).2.1])∧BdS T w0 w' ok g (P (n,es)).2.2.1 (P (n,es)).2.2.2 en∧Below w0.heap.size w0 w'∧KeepB w w' ok g
theorem PartC.at{F T:Nat}{w0:World}{A:Option Addr}{c:Nat}{l:List S196}{i:Int}{P:NB→NR}(h:PartC F T w0 A c l i P){n a z n2:Int}{es es2:List S116}(hq:(a,z,n2,es2)=P (n,es))(hn:Bn 60000 (n,es)){ok:Nat→Prop}{g:Nat}{en:List S138}{w:World}(h1:BdS T w0 w ok g n es en)(h2:Below w0.heap.size w0 w)(h3:∀k,w.heap.size≤k→ok k):
   Calls Try.prog F #[.pointer (some ⟨g,0,none⟩), .agg #[.slice A l.length c], .int .i64 i] w fun e w'=>e= .returned (.tuple #[.int .i64 a, .int .i64 z])∧BdS T w0 w' ok g n2 es2 en∧Below w0.heap.size w0 w'∧KeepB w w' ok g:=by
 have h4:=h ok g n es en w h1 h2 h3 hn;rw[←hq]at h4;exact h4
end Go.Proofs.Ytlecpdpdcocibaa.P
namespace Go.Proofs.Ytlecpdpdcocibaa.P
open Go.RowKit Go.Proofs.YtlecpdpdcocibaaW.PrintWords Go.Proofs.YtlecpdpdcocibaaW.PrintLast Go.Proofs.YtlecpdpdcocibaaW.PrintMore Go.Proofs.YtlecpdpdcocibaaEv
set_option linter.unusedVariables false
set_option linter.unusedSimpArgs false
def part{α:Type}(M L:List α)(i:Nat):List α:=M.take i++L.drop i
variable {α:Type} {d:Kd α} {e base lo lo2 hi hi2:Nat} {w w1:World} {v:Value} {xs:List α} {P:Nat→Prop}
theorem C_of_R{A:Option Addr}{n c:Nat}(h:Kd.R d e w base P (.slice A n c) xs):Kd.C d w A xs.length xs:=(Kd.R_reads' h).2.2
theorem L_of_R{A:Option Addr}{n c:Nat}(h:Kd.R d e w base P (.slice A n c) xs):xs.length≤c:=(Kd.R_reads' h).1 ▸ (Kd.R_reads' h).2.1
theorem H_put{g n cap:Nat}{ok oki:Nat→Prop}{i:Int}{c:List Value}(h:Kd.H d e w base ok (.slice (some ⟨g,0,none⟩) n cap) xs i oki c)(h0:0≤i)(h1:i<n)(j:Nat)(u:Value)(hj:j+1≤d.sz)(hu:u.oneCell'=true):
   Kd.H d e (w.setCell ⟨g,i.toNat*d.sz+j,none⟩ u) base ok (.slice (some ⟨g,0,none⟩) n cap) xs i oki (c.take j++ [u]++c.drop (j+1))∧w.grownBy (w.setCell ⟨g,i.toNat*d.sz+j,none⟩ u) (some g):=
 Kd.H_seg h h0 h1 (seg:=[u]) (j:=j) hj (by simpa using hu)
theorem below_drawn(h:Drawn0 w w1):Below w.heap.size w w1:=by
 obtain⟨n,rfl⟩:=h;exact pw_below_drewN (Below.refl _ _) n
end Go.Proofs.Ytlecpdpdcocibaa.P
namespace Go.Proofs.Ytlecpdpdcocibaa.P
open Go.RowKit Go.Shelf Go.Proofs.YtlecpdpdcocibaaW.PrintWords Go.Proofs.YtlecpdpdcocibaaW.PrintLast Go.Proofs.YtlecpdpdcocibaaW.PrintMore Go.Proofs.YtlecpdpdcocibaaEv
set_option linter.unusedVariables false
set_option linter.unusedSimpArgs false
attribute [local go_sem] max2_int min2_int max_two min_two
theorem tup_{a b a2 b2:Int}(h:a=a2)(h2:b=b2):Ending.returned (.tuple #[.int .i64 a, .int .i64 b])= .returned (.tuple #[.int .i64 a2, .int .i64 b2]):=by rw[h,h2]
theorem timesL_done(P:NB→NR)(mn op i:Int)(r:NR):timesL P mn op 0 i r=r:=rfl
theorem timesL_full{P:NB→NR}{mn op:Int}{m:Nat}{i f t n:Int}{es:List S116}(h:fullB n es=true):timesL P mn op m i (f,t,(n,es))=(f,t,(n,es)):=by
 cases m with
 |zero=>rfl
 |succ m=>simp only[timesL,fullN,h,if_true]
theorem timesL_next{P:NB→NR}{mn op:Int}{m:Nat}{i f t n:Int}{es:List S116}(h:fullB n es=false):timesL P mn op (m+1) i (f,t,(n,es))=timesL P mn op m (i+1) (joinN f t (if i≥mn then loopN op (P (n,es)).1 (P (n,es)).2.1 (P (n,es)).2.2 else P (n,es))):=by
 simp only[timesL,fullN,h,Bool.false_eq_true,if_false]
theorem timesS_hand{w0:World}{A:Option Addr}{c:Nat}{l:List S196}{i:Int}{P:NB→NR}{C:Nat}(hP:PartC 134 186 w0 A c l i P)(hb:BnP C P)(hC:C≤20000)(ok:Nat→Prop)(g:Nat)(n:Int)(es:List S116)(en:List S138)(x:S196)(A1:Option Addr)(c1:Nat)(ad2:Addr)(c2:Nat)(w:World)(hI:BdS 186 w0 w ok g n es en)(hB:Below w0.heap.size w0 w)(hF:∀k,w.heap.size≤k→ok k)(hn:Bn 0 (n,es))(hk0:w0.cell? ad2=some (.int .i64 i))(hx2:0<x.f2.length)(hx3:0≤x.f3∧x.f3≤30)(hx4: -1≤x.f4∧x.f4≤30):
    Calls Try.prog 146 #[.pointer (some ⟨g,0,none⟩), .agg #[.slice A l.length c], .agg #[.int .i64 x.f0, .slice A1 x.f1.length c1, .slice (some ad2) x.f2.length c2, .int .i64 x.f3, .int .i64 x.f4]] w fun e w'=>e= .returned (.tuple #[.int .i64 (timesS P x.f3 x.f4 (n,es)).1, .int .i64 (timesS P x.f3 x.f4 (n,es)).2.1])∧BdS 186 w0 w' ok g (timesS P x.f3 x.f4 (n,es)).2.2.1 (timesS P x.f3 x.f4 (n,es)).2.2.2 en∧Below w0.heap.size w0 w'∧KeepB w w' ok g:=by
  obtain⟨R,hR⟩:∃R,R=timesL P x.f3 (loopOp x.f4) (manyS x.f3 x.f4).toNat 0 (-1, -1,(n,es)):=⟨_,rfl⟩;unfold timesS;rw[←hR];obtain⟨M,hM⟩:∃M,M=manyS x.f3 x.f4:=⟨_,rfl⟩;obtain⟨O,hO⟩:∃O,O=loopOp x.f4:=⟨_,rfl⟩;rw[←hM,←hO]at hR;have HR:=q_ hR.symm;have hM0:0≤M∧M≤31:=by
   rw[hM];unfold manyS;split<;>omega
  have HP:=q_ hP;have HBP:=q_ hb;have HC:=q_ hC;have HI:=q_ hI;have HB0:=q_ hB;have HF:=q_ hF;have HK0:=q_ hk0;have HN:=q_ (hn.le (show 0≤C+8 by omega));have HGW:=q_ (Bd_lt hI);have T0:J0 True:=⟨trivial⟩;have T1:J0 True:=⟨trivial⟩;have z0:(0≤(0:Int))=True:=eq_true (by omega);have q2:(0<x.f2.length)=True:=eq_true hx2;have q:(0<(x.f2.length:Int))=True:=eq_true (by omega);clear hP hb hC hn hR hI hB hF hk0 hx2;obtain⟨hx30,hx31⟩:=hx3;obtain⟨hx40,hx41⟩:=hx4;by_cases cm:x.f4<0
  · have em : decide (x.f4<0)=true:=decide_eq_true cm
    have eM:M=x.f3+1:=by rw[hM];unfold manyS;rw[if_pos cm]
    have eO:O=5:=by rw[hO];unfold loopOp;rw[if_pos cm]
    clear hM hO;subst eM eO;clear cm;go_enter Try.func146,Try.ntmps146
    go_wp2_with(first
     | ((with_reducible refine gate_dst (N:=4) rfl ?_);clear T0;refine bx_ 4 #[.slice A l.length c] 67 ?_;intro g1 hg w1 hbox hb;have BK1:=q_ hbox;have HW:=q_ hb;have G1:=q_ (Nat.le_of_eq hg.symm);clear hb hbox hg)
     | ((with_reducible refine gate_dst (N:=5) rfl ?_);clear T1;refine bx_ 5 #[.int .i64 x.f0, .slice A1 x.f1.length c1, .slice (some ad2) x.f2.length c2, .int .i64 x.f3, .int .i64 x.f4] 196 ?_;intro g2 hg w2 hbox hb;have BK2:=q_ hbox;have G2:=ge_ hg HW;replace BK1:=lb_ BK1 hb;replace HW:=sb_ HW hb;have FR:=q_ (FrB.start HI.o HB0.o HW.o);have FR0:=q_ (okF.free HF.o HW.o);clear hb hbox hg;obtain⟨hy0,hy1,hy2,hy3,hy4,hf0,hf1,hf2,hf3,hf4⟩:=d5_ BK2))
    clear hy0 hy1 hy2 hy3 hy4 hf0 hf1 hf2 hf3 hf4
    go_loopg [8,9,11] (32) (fun gg v8 v9 v11 wr=>∃(j f t n1:Int) (es1:List S116),v8= .int .i64 f∧v9= .int .i64 t∧v11= .int .i64 j∧0≤j∧j≤(x.f3+1)∧((x.f3+1)-j).toNat<gg∧J0 (timesL P x.f3 5 ((x.f3+1)-j).toNat j (f,t,(n1,es1))=R)∧J0 (Bn (C+8) (n1,es1))∧J0 (FrB 186 w0 w2 wr (okF ok w w2) g n1 es1 en))
    case atStart=>exact⟨0, -1, -1,n,es,rfl,rfl,rfl,by omega,by omega,by omega,⟨by rw[Int.sub_zero];exact HR.o⟩,HN,FR⟩
    case round =>
      clear FR HN HR;obtain⟨j,f,t,n1,es1,rfl,rfl,rfl,hj0,hj1,hgg,HR,HN,FR⟩:=hrel;obtain⟨hy0,hy1,hy2,hy3,hy4,hf0,hf1,hf2,hf3,hf4⟩:=d5_ (q_ (FR.o.blk BK2.o G2.o HGW.o));by_cases hlt:j<(x.f3+1)
      · have d1 :decide (j<(x.f3+1))=true:=decide_eq_true hlt
        rcases hf:fullB n1 es1 with _| _
        · have ef:=hf
          have hs:=Bn.small HN.o.1 (show fullN (n1,es1)=false from hf);have hbn:=(HBP.o 0 (n1,es1) hs).le (show max 0 C≤C by omega);obtain⟨⟨a,z,n2,es2⟩,hq⟩:∃q,q=P (n1,es1):=⟨_,rfl⟩;have hnx:=(timesL_next (P:=P) (mn:=x.f3) (op:=5) (m:=((x.f3+1)-(j+1)).toNat) (i:=j) (f:=f) (t:=t) hf).symm.trans (show timesL P x.f3 5 (((x.f3+1)-(j+1)).toNat+1) j (f,t,(n1,es1))=R by rw[show((x.f3+1)-(j+1)).toNat+1=((x.f3+1)-j).toNat by omega];exact HR.o);rw[←hq]at hbn hnx;have HNX:=q_ hnx;have HQ:=q_ hq;have HBN:=q_ hbn;have hs2:=HBN.o.1;have hs3:=HBN.o.2.1;have hs4:=HBN.o.2.2;have hcc:=HC.o;dsimp only at hs2 hs3 hs4;have HS1:=q_ (hs.le (show 0≤60000 by omega));clear hf hs hbn hq hnx HR HN
          go_wp2_with(go_at_call 144;(with_reducible refine(fullS_hand _ g _ _ en _ FR.o.st).mono ?_);rintro e w7 ⟨rfl,rfl⟩;rw[ef])
          clear ef hy0 hy1 hy2 hy3 hy4 hf0 hf1 hf2 hf3 hf4 d1;replace FR:=q_ FR.o.drew;refine start_ (n:=12) (S:=fun w'=>w'.cell? ⟨g1,0,none⟩=some (.slice A l.length c)∧w'.cell? ⟨g2,2,none⟩=some (.slice (some ad2) x.f2.length c2)∧w'.cell? ad2=some (.int .i64 i)) (ds:=[]) (bb 12 0) (by kernel_rfl) rfl rfl ⟨(blk_cell (FR.o.blk BK1.o G1.o HGW.o) 0).trans rfl,(blk_cell (FR.o.blk BK2.o G2.o HGW.o) 2).trans rfl,mv_ FR.o.lo HK0.o⟩ (fun hS=>?_);generalize World.drew _=wd at FR hS ⊢;refine pk_ 0 34 1 ?_;refine pk_ 2 36 5 ?_;refine tk_ 1 35 7 hS ?_;refine tk_ 3 37 15 hS ?_;refine pk_ 4 38 31 ?_;refine tk_ 5 39 63 hS ?_;refine one_ (i:=6) (N:=some 40) (bb 12 127) rfl rfl (by kernel_rfl) (by decide) (fun K hK=>?_);refine gs_ Try.func134 #[.pointer (some ⟨g,0,none⟩), .agg #[.slice A l.length c], .int .i64 i] ?_;(with_reducible refine(HP.o.at HQ.o HS1.o FR.o.st FR.o.lo (FR.o.fr FR0.o)).mono ?_);rintro e w7 ⟨rfl,hI,hB,hK2⟩;refine⟨_,rfl,?_⟩;replace FR:=q_ (FR.o.call hI hB hK2);clear hI hB hK2;refine hK.out _ _ ⟨(blk_cell (FR.o.blk BK1.o G1.o HGW.o) 0).trans rfl,(blk_cell (FR.o.blk BK2.o G2.o HGW.o) 2).trans rfl,mv_ FR.o.lo HK0.o⟩ (fun hS=>?_);clear hK K;refine no_ (some 40) ?_;refine pk_ 7 33 255 ?_;refine pk_ 8 41 511 ?_;refine pk_ 9 42 1023 ?_;refine pk_ 10 12 2047 ?_;refine pk_ 11 13 4095 ?_;refine done_ (by kernel_rfl) ?_;clear hS;obtain⟨hy0,hy1,hy2,hy3,hy4,hf0,hf1,hf2,hf3,hf4⟩:=d5_ (q_ (FR.o.blk BK2.o G2.o HGW.o));by_cases hge:j≥x.f3
          · by_cases hf0_:f<0
            · have d2:(j≥x.f3)=True:=eq_true (by omega)
              have d3:decide (j≥x.f3)=true:=by simp[d2]
              have d4:decide (f<0)=true:=decide_eq_true hf0_;have hb3:=HBN.o.loop 5 a z;have hb4:=hb3.1;have hb5:=hb3.2.1;have hb6:=hb3.2.2;clear hb3
              go_wp2_with(first
          | (go_at_call 147;(with_reducible refine(loopS_hand _ g _ _ _ _ _ en _ FR.o.st FR.o.lo (FR.o.fr FR0.o) (by omega) (by omega)).mono ?_);rintro e w7 ⟨rfl,hI,hB,hK⟩;replace FR:=q_ (FR.o.call hI hB hK);clear hI hB hK)
          | (go_at_call 135;refine(edgeS_hand _ g _ _ _ _ en none 0 [] _ FR.o.st FR.o.lo (FR.o.fr FR0.o) (Kd.C_nil _ _) (Nat.le_refl _) (by simp) (by first|omega| (simp;omega))).mono ?_;rintro e w7 ⟨rfl,hI,hB,hK⟩;replace FR:=q_ (FR.o.call hI hB hK);clear hI hB hK))
              go_roundg (((x.f3+1)-j).toNat)
              case measure=>omega
              case rel=>
                have hn3:=HNX.o;have hb3:=HBN.o.loop 5 a z;rw[if_pos (by omega)]at hn3;unfold joinN at hn3;rw[if_pos (by omega)]at hn3;exact⟨j+1,_,_,_,_,rfl,rfl,by go_num,by omega,by omega,by omega,⟨hn3⟩,⟨(hb3).le (by omega)⟩,FR⟩
            · have d2:(j≥x.f3)=True:=eq_true (by omega)
              have d3:decide (j≥x.f3)=true:=by simp[d2]
              have d4:decide (f<0)=false:=decide_eq_false hf0_;have hb3:=HBN.o.loop 5 a z;have hb4:=hb3.1;have hb5:=hb3.2.1;have hb6:=hb3.2.2;clear hb3
              go_wp2_with(first
          | (go_at_call 147;(with_reducible refine(loopS_hand _ g _ _ _ _ _ en _ FR.o.st FR.o.lo (FR.o.fr FR0.o) (by omega) (by omega)).mono ?_);rintro e w7 ⟨rfl,hI,hB,hK⟩;replace FR:=q_ (FR.o.call hI hB hK);clear hI hB hK)
          | (go_at_call 135;refine(edgeS_hand _ g _ _ _ _ en none 0 [] _ FR.o.st FR.o.lo (FR.o.fr FR0.o) (Kd.C_nil _ _) (Nat.le_refl _) (by simp) (by first|omega| (simp;omega))).mono ?_;rintro e w7 ⟨rfl,hI,hB,hK⟩;replace FR:=q_ (FR.o.call hI hB hK);clear hI hB hK))
              go_roundg (((x.f3+1)-j).toNat)
              case measure=>omega
              case rel=>
                have hn3:=HNX.o;have hb3:=HBN.o.loop 5 a z;rw[if_pos (by omega)]at hn3;unfold joinN at hn3;rw[if_neg (by omega)]at hn3;exact⟨j+1,_,_,_,_,rfl,rfl,by go_num,by omega,by omega,by omega,⟨hn3⟩,⟨(hb3.edge _ _ _).le (by omega)⟩,FR⟩
          · by_cases hf0_:f<0
            · have d2:(j≥x.f3)=False:=eq_false (by omega)
              have d3:decide (j≥x.f3)=false:=by simp[d2]
              have d4:decide (f<0)=true:=decide_eq_true hf0_
              go_wp2_with(first
          | (go_at_call 147;(with_reducible refine(loopS_hand _ g _ _ _ _ _ en _ FR.o.st FR.o.lo (FR.o.fr FR0.o) (by omega) (by omega)).mono ?_);rintro e w7 ⟨rfl,hI,hB,hK⟩;replace FR:=q_ (FR.o.call hI hB hK);clear hI hB hK)
          | (go_at_call 135;refine(edgeS_hand _ g _ _ _ _ en none 0 [] _ FR.o.st FR.o.lo (FR.o.fr FR0.o) (Kd.C_nil _ _) (Nat.le_refl _) (by simp) (by first|omega| (simp;omega))).mono ?_;rintro e w7 ⟨rfl,hI,hB,hK⟩;replace FR:=q_ (FR.o.call hI hB hK);clear hI hB hK))
              go_roundg (((x.f3+1)-j).toNat)
              case measure=>omega
              case rel=>
                have hn3:=HNX.o;have hb3:=HBN.o;rw[if_neg (by omega)]at hn3;unfold joinN at hn3;rw[if_pos (by omega)]at hn3;exact⟨j+1,_,_,_,_,rfl,rfl,by go_num,by omega,by omega,by omega,⟨hn3⟩,⟨(hb3).le (by omega)⟩,FR⟩
            · have d2:(j≥x.f3)=False:=eq_false (by omega)
              have d3:decide (j≥x.f3)=false:=by simp[d2]
              have d4:decide (f<0)=false:=decide_eq_false hf0_
              go_wp2_with(first
          | (go_at_call 147;(with_reducible refine(loopS_hand _ g _ _ _ _ _ en _ FR.o.st FR.o.lo (FR.o.fr FR0.o) (by omega) (by omega)).mono ?_);rintro e w7 ⟨rfl,hI,hB,hK⟩;replace FR:=q_ (FR.o.call hI hB hK);clear hI hB hK)
          | (go_at_call 135;refine(edgeS_hand _ g _ _ _ _ en none 0 [] _ FR.o.st FR.o.lo (FR.o.fr FR0.o) (Kd.C_nil _ _) (Nat.le_refl _) (by simp) (by first|omega| (simp;omega))).mono ?_;rintro e w7 ⟨rfl,hI,hB,hK⟩;replace FR:=q_ (FR.o.call hI hB hK);clear hI hB hK))
              go_roundg (((x.f3+1)-j).toNat)
              case measure=>omega
              case rel=>
                have hn3:=HNX.o;have hb3:=HBN.o;rw[if_neg (by omega)]at hn3;unfold joinN at hn3;rw[if_neg (by omega)]at hn3;exact⟨j+1,_,_,_,_,rfl,rfl,by go_num,by omega,by omega,by omega,⟨hn3⟩,⟨(hb3.edge _ _ _).le (by omega)⟩,FR⟩
        · have ef:=hf
          have hr:=(timesL_full (P:=P) (mn:=x.f3) (op:=5) (m:=((x.f3+1)-j).toNat) (i:=j) (f:=f) (t:=t) hf).symm.trans HR.o;subst hr;clear hf HR
          go_wp2_with(go_at_call 144;(with_reducible refine(fullS_hand _ g _ _ en _ FR.o.st).mono ?_);rintro e w7 ⟨rfl,rfl⟩;rw[ef])
          all_goals(go_ret2;exact⟨tup_ (by omega) (by omega),FR.o.fin HW.o⟩)
      · have d1:decide (j<(x.f3+1))=false:=decide_eq_false hlt
        have hr:=HR.o;rw[show((x.f3+1)-j).toNat=0 by omega,timesL_done]at hr;subst hr;clear HR;go_wp2
        all_goals(go_ret2;exact⟨tup_ (by omega) (by omega),FR.o.fin HW.o⟩)
  · have em : decide (x.f4<0)=false:=decide_eq_false cm
    have eM:M=x.f4:=by rw[hM];unfold manyS;rw[if_neg cm]
    have eO:O=7:=by rw[hO];unfold loopOp;rw[if_neg cm]
    clear hM hO;subst eM eO;clear cm;go_enter Try.func146,Try.ntmps146
    go_wp2_with(first
     | ((with_reducible refine gate_dst (N:=4) rfl ?_);clear T0;refine bx_ 4 #[.slice A l.length c] 67 ?_;intro g1 hg w1 hbox hb;have BK1:=q_ hbox;have HW:=q_ hb;have G1:=q_ (Nat.le_of_eq hg.symm);clear hb hbox hg)
     | ((with_reducible refine gate_dst (N:=5) rfl ?_);clear T1;refine bx_ 5 #[.int .i64 x.f0, .slice A1 x.f1.length c1, .slice (some ad2) x.f2.length c2, .int .i64 x.f3, .int .i64 x.f4] 196 ?_;intro g2 hg w2 hbox hb;have BK2:=q_ hbox;have G2:=ge_ hg HW;replace BK1:=lb_ BK1 hb;replace HW:=sb_ HW hb;have FR:=q_ (FrB.start HI.o HB0.o HW.o);have FR0:=q_ (okF.free HF.o HW.o);clear hb hbox hg;obtain⟨hy0,hy1,hy2,hy3,hy4,hf0,hf1,hf2,hf3,hf4⟩:=d5_ BK2))
    clear hy0 hy1 hy2 hy3 hy4 hf0 hf1 hf2 hf3 hf4
    go_loopg [8,9,11] (32) (fun gg v8 v9 v11 wr=>∃(j f t n1:Int) (es1:List S116),v8= .int .i64 f∧v9= .int .i64 t∧v11= .int .i64 j∧0≤j∧j≤x.f4∧(x.f4-j).toNat<gg∧J0 (timesL P x.f3 7 (x.f4-j).toNat j (f,t,(n1,es1))=R)∧J0 (Bn (C+8) (n1,es1))∧J0 (FrB 186 w0 w2 wr (okF ok w w2) g n1 es1 en))
    case atStart=>exact⟨0, -1, -1,n,es,rfl,rfl,rfl,by omega,by omega,by omega,⟨by rw[Int.sub_zero];exact HR.o⟩,HN,FR⟩
    case round =>
      clear FR HN HR;obtain⟨j,f,t,n1,es1,rfl,rfl,rfl,hj0,hj1,hgg,HR,HN,FR⟩:=hrel;obtain⟨hy0,hy1,hy2,hy3,hy4,hf0,hf1,hf2,hf3,hf4⟩:=d5_ (q_ (FR.o.blk BK2.o G2.o HGW.o));by_cases hlt:j<x.f4
      · have d1 :decide (j<x.f4)=true:=decide_eq_true hlt
        rcases hf:fullB n1 es1 with _| _
        · have ef:=hf
          have hs:=Bn.small HN.o.1 (show fullN (n1,es1)=false from hf);have hbn:=(HBP.o 0 (n1,es1) hs).le (show max 0 C≤C by omega);obtain⟨⟨a,z,n2,es2⟩,hq⟩:∃q,q=P (n1,es1):=⟨_,rfl⟩;have hnx:=(timesL_next (P:=P) (mn:=x.f3) (op:=7) (m:=(x.f4-(j+1)).toNat) (i:=j) (f:=f) (t:=t) hf).symm.trans (show timesL P x.f3 7 ((x.f4-(j+1)).toNat+1) j (f,t,(n1,es1))=R by rw[show(x.f4-(j+1)).toNat+1=(x.f4-j).toNat by omega];exact HR.o);rw[←hq]at hbn hnx;have HNX:=q_ hnx;have HQ:=q_ hq;have HBN:=q_ hbn;have hs2:=HBN.o.1;have hs3:=HBN.o.2.1;have hs4:=HBN.o.2.2;have hcc:=HC.o;dsimp only at hs2 hs3 hs4;have HS1:=q_ (hs.le (show 0≤60000 by omega));clear hf hs hbn hq hnx HR HN
          go_wp2_with(go_at_call 144;(with_reducible refine(fullS_hand _ g _ _ en _ FR.o.st).mono ?_);rintro e w7 ⟨rfl,rfl⟩;rw[ef])
          clear ef hy0 hy1 hy2 hy3 hy4 hf0 hf1 hf2 hf3 hf4 d1;replace FR:=q_ FR.o.drew;refine start_ (n:=12) (S:=fun w'=>w'.cell? ⟨g1,0,none⟩=some (.slice A l.length c)∧w'.cell? ⟨g2,2,none⟩=some (.slice (some ad2) x.f2.length c2)∧w'.cell? ad2=some (.int .i64 i)) (ds:=[]) (bb 12 0) (by kernel_rfl) rfl rfl ⟨(blk_cell (FR.o.blk BK1.o G1.o HGW.o) 0).trans rfl,(blk_cell (FR.o.blk BK2.o G2.o HGW.o) 2).trans rfl,mv_ FR.o.lo HK0.o⟩ (fun hS=>?_);generalize World.drew _=wd at FR hS ⊢;refine pk_ 0 34 1 ?_;refine pk_ 2 36 5 ?_;refine tk_ 1 35 7 hS ?_;refine tk_ 3 37 15 hS ?_;refine pk_ 4 38 31 ?_;refine tk_ 5 39 63 hS ?_;refine one_ (i:=6) (N:=some 40) (bb 12 127) rfl rfl (by kernel_rfl) (by decide) (fun K hK=>?_);refine gs_ Try.func134 #[.pointer (some ⟨g,0,none⟩), .agg #[.slice A l.length c], .int .i64 i] ?_;(with_reducible refine(HP.o.at HQ.o HS1.o FR.o.st FR.o.lo (FR.o.fr FR0.o)).mono ?_);rintro e w7 ⟨rfl,hI,hB,hK2⟩;refine⟨_,rfl,?_⟩;replace FR:=q_ (FR.o.call hI hB hK2);clear hI hB hK2;refine hK.out _ _ ⟨(blk_cell (FR.o.blk BK1.o G1.o HGW.o) 0).trans rfl,(blk_cell (FR.o.blk BK2.o G2.o HGW.o) 2).trans rfl,mv_ FR.o.lo HK0.o⟩ (fun hS=>?_);clear hK K;refine no_ (some 40) ?_;refine pk_ 7 33 255 ?_;refine pk_ 8 41 511 ?_;refine pk_ 9 42 1023 ?_;refine pk_ 10 12 2047 ?_;refine pk_ 11 13 4095 ?_;refine done_ (by kernel_rfl) ?_;clear hS;obtain⟨hy0,hy1,hy2,hy3,hy4,hf0,hf1,hf2,hf3,hf4⟩:=d5_ (q_ (FR.o.blk BK2.o G2.o HGW.o));by_cases hge:j≥x.f3
          · by_cases hf0_:f<0
            · have d2:(j≥x.f3)=True:=eq_true (by omega)
              have d3:decide (j≥x.f3)=true:=by simp[d2]
              have d4:decide (f<0)=true:=decide_eq_true hf0_;have hb3:=HBN.o.loop 7 a z;have hb4:=hb3.1;have hb5:=hb3.2.1;have hb6:=hb3.2.2;clear hb3
              go_wp2_with(first
          | (go_at_call 147;(with_reducible refine(loopS_hand _ g _ _ _ _ _ en _ FR.o.st FR.o.lo (FR.o.fr FR0.o) (by omega) (by omega)).mono ?_);rintro e w7 ⟨rfl,hI,hB,hK⟩;replace FR:=q_ (FR.o.call hI hB hK);clear hI hB hK)
          | (go_at_call 135;refine(edgeS_hand _ g _ _ _ _ en none 0 [] _ FR.o.st FR.o.lo (FR.o.fr FR0.o) (Kd.C_nil _ _) (Nat.le_refl _) (by simp) (by first|omega| (simp;omega))).mono ?_;rintro e w7 ⟨rfl,hI,hB,hK⟩;replace FR:=q_ (FR.o.call hI hB hK);clear hI hB hK))
              go_roundg ((x.f4-j).toNat)
              case measure=>omega
              case rel=>
                have hn3:=HNX.o;have hb3:=HBN.o.loop 7 a z;rw[if_pos (by omega)]at hn3;unfold joinN at hn3;rw[if_pos (by omega)]at hn3;exact⟨j+1,_,_,_,_,rfl,rfl,by go_num,by omega,by omega,by omega,⟨hn3⟩,⟨(hb3).le (by omega)⟩,FR⟩
            · have d2:(j≥x.f3)=True:=eq_true (by omega)
              have d3:decide (j≥x.f3)=true:=by simp[d2]
              have d4:decide (f<0)=false:=decide_eq_false hf0_;have hb3:=HBN.o.loop 7 a z;have hb4:=hb3.1;have hb5:=hb3.2.1;have hb6:=hb3.2.2;clear hb3
              go_wp2_with(first
          | (go_at_call 147;(with_reducible refine(loopS_hand _ g _ _ _ _ _ en _ FR.o.st FR.o.lo (FR.o.fr FR0.o) (by omega) (by omega)).mono ?_);rintro e w7 ⟨rfl,hI,hB,hK⟩;replace FR:=q_ (FR.o.call hI hB hK);clear hI hB hK)
          | (go_at_call 135;refine(edgeS_hand _ g _ _ _ _ en none 0 [] _ FR.o.st FR.o.lo (FR.o.fr FR0.o) (Kd.C_nil _ _) (Nat.le_refl _) (by simp) (by first|omega| (simp;omega))).mono ?_;rintro e w7 ⟨rfl,hI,hB,hK⟩;replace FR:=q_ (FR.o.call hI hB hK);clear hI hB hK))
              go_roundg ((x.f4-j).toNat)
              case measure=>omega
              case rel=>
                have hn3:=HNX.o;have hb3:=HBN.o.loop 7 a z;rw[if_pos (by omega)]at hn3;unfold joinN at hn3;rw[if_neg (by omega)]at hn3;exact⟨j+1,_,_,_,_,rfl,rfl,by go_num,by omega,by omega,by omega,⟨hn3⟩,⟨(hb3.edge _ _ _).le (by omega)⟩,FR⟩
          · by_cases hf0_:f<0
            · have d2:(j≥x.f3)=False:=eq_false (by omega)
              have d3:decide (j≥x.f3)=false:=by simp[d2]
              have d4:decide (f<0)=true:=decide_eq_true hf0_
              go_wp2_with(first
          | (go_at_call 147;(with_reducible refine(loopS_hand _ g _ _ _ _ _ en _ FR.o.st FR.o.lo (FR.o.fr FR0.o) (by omega) (by omega)).mono ?_);rintro e w7 ⟨rfl,hI,hB,hK⟩;replace FR:=q_ (FR.o.call hI hB hK);clear hI hB hK)
          | (go_at_call 135;refine(edgeS_hand _ g _ _ _ _ en none 0 [] _ FR.o.st FR.o.lo (FR.o.fr FR0.o) (Kd.C_nil _ _) (Nat.le_refl _) (by simp) (by first|omega| (simp;omega))).mono ?_;rintro e w7 ⟨rfl,hI,hB,hK⟩;replace FR:=q_ (FR.o.call hI hB hK);clear hI hB hK))
              go_roundg ((x.f4-j).toNat)
              case measure=>omega
              case rel=>
                have hn3:=HNX.o;have hb3:=HBN.o;rw[if_neg (by omega)]at hn3;unfold joinN at hn3;rw[if_pos (by omega)]at hn3;exact⟨j+1,_,_,_,_,rfl,rfl,by go_num,by omega,by omega,by omega,⟨hn3⟩,⟨(hb3).le (by omega)⟩,FR⟩
            · have d2:(j≥x.f3)=False:=eq_false (by omega)
              have d3:decide (j≥x.f3)=false:=by simp[d2]
              have d4:decide (f<0)=false:=decide_eq_false hf0_
              go_wp2_with(first
          | (go_at_call 147;(with_reducible refine(loopS_hand _ g _ _ _ _ _ en _ FR.o.st FR.o.lo (FR.o.fr FR0.o) (by omega) (by omega)).mono ?_);rintro e w7 ⟨rfl,hI,hB,hK⟩;replace FR:=q_ (FR.o.call hI hB hK);clear hI hB hK)
          | (go_at_call 135;refine(edgeS_hand _ g _ _ _ _ en none 0 [] _ FR.o.st FR.o.lo (FR.o.fr FR0.o) (Kd.C_nil _ _) (Nat.le_refl _) (by simp) (by first|omega| (simp;omega))).mono ?_;rintro e w7 ⟨rfl,hI,hB,hK⟩;replace FR:=q_ (FR.o.call hI hB hK);clear hI hB hK))
              go_roundg ((x.f4-j).toNat)
              case measure=>omega
              case rel=>
                have hn3:=HNX.o;have hb3:=HBN.o;rw[if_neg (by omega)]at hn3;unfold joinN at hn3;rw[if_neg (by omega)]at hn3;exact⟨j+1,_,_,_,_,rfl,rfl,by go_num,by omega,by omega,by omega,⟨hn3⟩,⟨(hb3.edge _ _ _).le (by omega)⟩,FR⟩
        · have ef:=hf
          have hr:=(timesL_full (P:=P) (mn:=x.f3) (op:=7) (m:=(x.f4-j).toNat) (i:=j) (f:=f) (t:=t) hf).symm.trans HR.o;subst hr;clear hf HR
          go_wp2_with(go_at_call 144;(with_reducible refine(fullS_hand _ g _ _ en _ FR.o.st).mono ?_);rintro e w7 ⟨rfl,rfl⟩;rw[ef])
          all_goals(go_ret2;exact⟨tup_ (by omega) (by omega),FR.o.fin HW.o⟩)
      · have d1:decide (j<x.f4)=false:=decide_eq_false hlt
        have hr:=HR.o;rw[show(x.f4-j).toNat=0 by omega,timesL_done]at hr;subst hr;clear HR;go_wp2
        all_goals(go_ret2;exact⟨tup_ (by omega) (by omega),FR.o.fin HW.o⟩)
end Go.Proofs.Ytlecpdpdcocibaa.P
namespace Go.Proofs.Ytlecpdpdcocibaa.P
open Go.RowKit Go.Shelf Go.Proofs.YtlecpdpdcocibaaW.PrintWords Go.Proofs.YtlecpdpdcocibaaW.PrintLast Go.Proofs.YtlecpdpdcocibaaW.PrintMore Go.Proofs.YtlecpdpdcocibaaEv
set_option linter.unusedVariables false
set_option linter.unusedSimpArgs false
theorem partS_hand{w0:World}{A:Option Addr}{c:Nat}{l:List S196}(hr:Kd.C k196 w0 A l.length l)(hc:l.length≤c)(hok:∀j,j<l.length→nodeAt l j=true):∀(k:Nat) (i:Int),0≤i→i<(l.length:Int)→i.toNat<k→k≤1000→PartC 134 186 w0 A c l i (partN timesS l k i):=by
 intro k
 induction k with
 |zero=>intro i _ _ h;omega
 |succ k ih=>
 intro i p0 q0 hik hk1 ok g n es en w hI hB hF hn;have hnode:=hok i.toNat (by omega);rw[←Int.toNat_of_nonneg p0]at hik;have hops:=node_ops hnode;have hkid:=node_kid hnode;rw[Int.toNat_of_nonneg p0]at hops hkid hik;have hcls:(rd_T196 l i).f1.length≤1048576:=by
  have:=node_set_few hnode;rw[Int.toNat_of_nonneg p0]at this;omega
 have htms:=fun h8:(rd_T196 l i).f0=8=>(Int.toNat_of_nonneg p0 ▸ (node_counts hnode)) h8
 have hPC:∀t:Nat,t<(rd_T196 l i).f2.length→PartC 134 186 w0 A c l (rd (rd_T196 l i).f2 (t:Int)) (partN timesS l k (rd (rd_T196 l i).f2 (t:Int))):=fun t ht=>by
  obtain⟨h1,h2⟩:=hkid t ht;exact ih _ (by omega) (by omega) (by omega) (by omega)
 have hP0:=hPC 0;have hP1:=hPC 1;simp only[Int.ofNat_zero,Int.natCast_one,Int.cast_ofNat_Int]at hP0 hP1;clear hPC hkid ih hnode;have hbp0:=partS_bn l k (rd (rd_T196 l i).f2 0);have hbp1:=partS_bn l k (rd (rd_T196 l i).f2 1);have HGW:=q_ (Bd_lt hI);have T0:J0 True:=⟨trivial⟩;have T1:J0 True:=⟨trivial⟩;have T2:J0 True:=⟨trivial⟩;have T3:J0 True:=⟨trivial⟩;rcases hf:fullB n es with _| _
 rotate_left
 ·rw[full_part timesS l (k+1) i (show fullN (n,es)=true from hf)]
  have HI:=q_ hI;have HB0:=q_ hB;have HF:=q_ hF;have ef:=hf;clear hI hB hF hn hf hops htms hP0 hP1 hbp0 hbp1 hcls p0 q0 hik hr hc hok;go_enter Try.func134,Try.ntmps134
  go_wp2_with(first
   | ((with_reducible refine gate_dst (N:=4) rfl ?_);clear T0;refine bx_ 4 #[.slice A l.length c] 67 ?_;intro g1 hg w1 hbox hb;have HW:=q_ hb;have FR:=q_ (FrB.start HI.o HB0.o hb);have FR0:=q_ (okF.free HF.o hb);clear hb hbox hg)
   | (go_at_call 144;(with_reducible refine(fullS_hand _ g _ _ en _ FR.o.st).mono ?_);rintro e w7 ⟨rfl,rfl⟩;rw[ef]))
  go_ret2
  exact⟨rfl,FR.o.fin HW.o⟩
 have hs:=Bn.small hn.1 (show fullN (n,es)=false from hf);have hs1:=hs.1;have hs2:=hs.2.1;have hs3:=hs.2.2;dsimp only at hs1 hs2 hs3;obtain⟨ad,A1,c1,A2,c2,e,hx0,hx1,hx2,hx3,hx4,hl1,hi1,hl2,hi2⟩:=at_T196 hr i p0 q0;subst e;rw[partN_succ timesS l k i (show fullN (n,es)=false from hf)];generalize hPP0:partN timesS l k (rd (rd_T196 l i).f2 0)=P0 at *;generalize hPP1:partN timesS l k (rd (rd_T196 l i).f2 1)=P1 at *;clear hPP0 hPP1;generalize rd_T196 l i=x at *;generalize hR:stepN timesS x P0 P1 (n,es)=R;have HRR:=q_ hR;clear hR;have HR:=q_ hr;have HC:=q_ hc;have HI1:=q_ hi1;have HL1:=q_ hl1;have HI2:=q_ hi2;have HX1:=q_ hcls;have HOPS:=q_ hops;have HTMS:=q_ htms;have HP0:=q_ hP0;have HP1:=q_ hP1;have HBP0:=q_ hbp0;have HBP1:=q_ hbp1;have HS:=q_ hs;have HI:=q_ hI;have HB0:=q_ hB;have HF:=q_ hF;have ef:=hf;clear hr hc hok hi1 hl1 hl2 hi2 hcls hops htms hP0 hP1 hbp0 hbp1 hs hI hB hF hf hn hik;replace p0:=eq_true p0;replace q0:=eq_true q0;go_enter Try.func134,Try.ntmps134;go_upto_region 5 with(first
  | ((with_reducible refine gate_dst (N:=4) rfl ?_);clear T0;refine bx_ 4 #[.slice (some ad) l.length c] 67 ?_;intro g1 hg w1 hbox hb;have BK1:=q_ hbox;have HW:=q_ hb;have FR:=q_ (FrB.start HI.o HB0.o hb);have G1:=q_ (Nat.le_of_eq hg.symm);have HLO:=q_ (FR.o.lo);replace hx0:=mv_ HLO.o hx0;replace hx1:=mv_ HLO.o hx1;replace hx2:=mv_ HLO.o hx2;replace hx3:=mv_ HLO.o hx3;replace hx4:=mv_ HLO.o hx4;clear hb hbox hg HLO;obtain⟨hcz,hfz⟩:=d1_ BK1)
  | (go_at_call 144;(with_reducible refine(fullS_hand _ g _ _ en _ FR.o.st).mono ?_);rintro e w7 ⟨rfl,rfl⟩;rw[ef])
  | ((with_reducible refine gate_dst (N:=8) rfl ?_);clear T1;refine bx_ 8 #[.int .i64 0, .slice none 0 0, .slice none 0 0, .int .i64 0, .int .i64 0] 196 ?_;intro g3 hg w3 hbox hb;have BK3:=q_ hbox;have G3:=ge_ hg HW;have NB:=nl_ hg BK1;replace BK1:=lb_ BK1 hb;replace HW:=sb_ HW hb;clear hb hbox hg;obtain⟨hy0,hy1,hy2,hy3,hy4,hf0,hf1,hf2,hf3,hf4⟩:=d5_ BK3))
 generalize hW_:(((((w3.setCell ⟨g3,0,none⟩ (.int .i64 x.f0)).setCell ⟨g3,1,none⟩ (.slice A1 x.f1.length c1)).setCell ⟨g3,2,none⟩ (.slice A2 x.f2.length c2)).setCell ⟨g3,3,none⟩ (.int .i64 x.f3)).setCell ⟨g3,4,none⟩ (.int .i64 x.f4))=w5;replace BK1:=bf5_ hW_ BK1 NB;replace BK3:=bp5_ hW_ BK3;replace HW:=bw5_ hW_ (be2_ HW.o G1.o G3.o);clear hW_ hx0 hx1 hx2 hx3 hx4 hcz hfz hy0 hy1 hy2 hy3 hy4 hf0 hf1 hf2 hf3 hf4 NB p0 q0 ef FR;have FR:=q_ (FrB.start HI.o HB0.o HW.o);have FR0:=q_ (okF.free HF.o HW.o);clear HI HB0 HF;rcases HOPS.o with h| ⟨h,hl⟩| ⟨h,hl⟩
 ·have hR:=HRR.o
  clear HRR;unfold stepN at hR;rw[if_pos h]at hR;unfold setN at hR;have HRR:=q_ hR;clear hR;clear HOPS HTMS HP0 HP1 HBP0 HBP1 HR;obtain⟨hy0,hy1,hy2,hy3,hy4,hf0,hf1,hf2,hf3,hf4⟩:=d5_ (q_ (FR.o.blk BK3.o G3.o HGW.o));obtain⟨hcz,hfz⟩:=d1_ (q_ (FR.o.blk BK1.o G1.o HGW.o));have hor:((x.f0==1)=true)∨((x.f0==1)=false∧(x.f0==2)=true):=by
   rcases h with h|h
   ·exact .inl (beq_iff_eq.mpr h)
   ·exact .inr ⟨beq_eq_false_iff_ne.mpr (by omega),beq_iff_eq.mpr h⟩
  clear h;rcases hor with e1| ⟨n1,e2⟩
  all_goals
   go_wp2_with(first
   | (go_at_call 145;clear T2;(with_reducible refine(stateS_hand _ g _ _ en _ FR.o.st FR.o.lo (by omega)).mono ?_);rintro e w7 ⟨rfl,hI,hB,hK2⟩;replace FR:=q_ (FR.o.call hI hB hK2);clear hI hB hK2;clear hy0 hy1 hy2 hy3 hy4 hf0 hf1 hf2 hf3 hf4 hcz hfz;obtain⟨hy0,hy1,hy2,hy3,hy4,hf0,hf1,hf2,hf3,hf4⟩:=d5_ (q_ (FR.o.blk BK3.o G3.o HGW.o));obtain⟨hcz,hfz⟩:=d1_ (q_ (FR.o.blk BK1.o G1.o HGW.o)))
   | (go_at_call 145;clear T3;(with_reducible refine(stateS_hand _ g _ _ en _ FR.o.st FR.o.lo (by omega)).mono ?_);rintro e w7 ⟨rfl,hI,hB,hK2⟩;replace FR:=q_ (FR.o.call hI hB hK2);clear hI hB hK2;clear hy0 hy1 hy2 hy3 hy4 hf0 hf1 hf2 hf3 hf4 hcz hfz;obtain⟨hy0,hy1,hy2,hy3,hy4,hf0,hf1,hf2,hf3,hf4⟩:=d5_ (q_ (FR.o.blk BK3.o G3.o HGW.o));obtain⟨hcz,hfz⟩:=d1_ (q_ (FR.o.blk BK1.o G1.o HGW.o)))
   | (go_at_call 135;refine(edgeS_hand _ g _ _ _ _ en A1 c1 x.f1 _ FR.o.st FR.o.lo (FR.o.fr FR0.o) (Kd.C_below HI1.o FR.o.lo) HL1.o HX1.o (by first|omega| (simp;omega))).mono ?_;rintro e w7 ⟨rfl,hI,hB,hK2⟩;replace FR:=q_ (FR.o.call hI hB hK2);clear hI hB hK2))
   go_ret2
   have h2:n+1+1=n+2:=by omega
   rw[h2]at FR;rw[←HRR.o];exact⟨rfl,FR.o.fin HW.o⟩
 ·have hR:=HRR.o
  clear HRR;unfold stepN at hR;rw[if_neg (by omega)]at hR;rcases h with h|h
  ·rw[if_pos h]at hR
   unfold catN at hR;have hlen:=hl;obtain⟨ad2,e,hk0⟩:=Kd.at_int HI2.o 0 (by omega) (by omega);subst e;rw[show(0:Int).toNat=0 from rfl,Addr.add_zero']at hk0;have HK0:=q_ hk0;clear hk0;have q2:(0<x.f2.length)=True:=eq_true (by omega);have q:=(eq_true (by omega:0<(x.f2.length:Int)):(0<(x.f2.length:Int))=True);have z0:(0≤(0:Int))=True:=eq_true (by omega);obtain⟨ad3,e,hk1⟩:=Kd.at_int HI2.o 1 (by omega) (by omega);obtain rfl:ad2=ad3:=by injection e
   clear e;simp only[show(1:Int).toNat=1 from rfl,Go.Addr.add,Nat.reduceMul,Nat.reduceEqDiff, ↓reduceIte]at hk1;have HK1:=q_ hk1;clear hk1;have q3:(1<x.f2.length)=True:=eq_true (by omega);have qq:=(eq_true (by omega:1<(x.f2.length:Int)):(1<(x.f2.length:Int))=True);have z1:(0≤(1:Int))=True:=eq_true (by omega);have hbn:=(HBP0.o 0 (n,es) HS.o).le (show max 0 (16*k)≤60000 by omega);obtain⟨⟨a,z,n2,es2⟩,hq⟩:∃q,q=P0 (n,es):=⟨_,rfl⟩;rw[←hq]at hbn hR;dsimp only at hbn hR;have hb4:=hbn.1;have hb5:=hbn.2.1;have hb6:=hbn.2.2;dsimp only at hb4 hb5 hb6;have HQ0:=q_ hq;have HN0:=q_ (HS.o.le (show 0≤60000 by omega));have HN1:=q_ hbn;have HPC0:=q_ (HP0.o (by omega));clear hbn hq;have hbn:=(HBP1.o (16*k) (n2,es2) (by have h:=(HBP0.o 0 (n,es) HS.o).le (show max 0 (16*k)≤16*k by omega);rw[←HQ0.o]at h;exact h)).le (show max (16*k) (16*k)≤60000 by omega);obtain⟨⟨b,y,n3,es3⟩,hq⟩:∃q,q=P1 (n2,es2):=⟨_,rfl⟩;rw[←hq]at hbn hR;dsimp only at hbn hR;have hb7:=hbn.1;have hb8:=hbn.2.1;have hb9:=hbn.2.2;dsimp only at hb7 hb8 hb9;have HRR:=q_ hR;clear hR;have HQ1:=q_ hq;have HPC1:=q_ (HP1.o (by omega));clear hbn hq;have e3:(x.f0==3)=true:=beq_iff_eq.mpr h;have ne1:(x.f0==1)=false:=beq_eq_false_iff_ne.mpr (by omega);have ne2:(x.f0==2)=false:=beq_eq_false_iff_ne.mpr (by omega);have ne8:(x.f0==8)=false:=beq_eq_false_iff_ne.mpr (by omega);clear h HOPS HTMS HP0 HP1 HBP0 HBP1 HR HI2;obtain⟨hy0,hy1,hy2,hy3,hy4,hf0,hf1,hf2,hf3,hf4⟩:=d5_ (q_ (FR.o.blk BK3.o G3.o HGW.o));obtain⟨hcz,hfz⟩:=d1_ (q_ (FR.o.blk BK1.o G1.o HGW.o));go_wp2;clear hy0 hy1 hy2 hy3 hy4 hf0 hf1 hf2 hf3 hf4 hcz hfz;replace FR:=q_ FR.o.drew;refine start_ (n:=12) (S:=fun w'=>w'.cell? ⟨g1,0,none⟩=some (.slice (some ad) l.length c)∧w'.cell? ⟨g3,2,none⟩=some (.slice (some ad2) x.f2.length c2)∧w'.cell? ad2=some (.int .i64 (rd x.f2 0))) (ds:=[]) (bb 12 0) (by kernel_rfl) rfl rfl ⟨(blk_cell (FR.o.blk BK1.o G1.o HGW.o) 0).trans rfl,(blk_cell (FR.o.blk BK3.o G3.o HGW.o) 2).trans rfl,mv_ FR.o.lo HK0.o⟩ (fun hS=>?_);generalize World.drew _=wd at FR hS ⊢;refine pk_ 0 52 1 ?_;refine pk_ 2 54 5 ?_;refine tk_ 1 53 7 hS ?_;refine tk_ 3 55 15 hS ?_;refine pk_ 4 56 31 ?_;refine tk_ 5 57 63 hS ?_;refine one_ (i:=6) (N:=some 58) (bb 12 127) rfl rfl (by kernel_rfl) (by decide) (fun K hK=>?_);refine gs_ Try.func134 #[.pointer (some ⟨g,0,none⟩), .agg #[.slice (some ad) l.length c], .int .i64 (rd x.f2 0)] ?_;(with_reducible refine(HPC0.o.at HQ0.o HN0.o FR.o.st FR.o.lo (FR.o.fr FR0.o)).mono ?_);rintro e w7 ⟨rfl,hI,hB,hK2⟩;refine⟨_,rfl,?_⟩;replace FR:=q_ (FR.o.call hI hB hK2);clear hI hB hK2;refine hK.out _ _ ⟨(blk_cell (FR.o.blk BK1.o G1.o HGW.o) 0).trans rfl,(blk_cell (FR.o.blk BK3.o G3.o HGW.o) 2).trans rfl,mv_ FR.o.lo HK0.o⟩ (fun hS=>?_);clear hK K;refine no_ (some 58) ?_;refine pk_ 7 51 255 ?_;refine pk_ 8 59 511 ?_;refine pk_ 9 60 1023 ?_;refine pk_ 10 11 2047 ?_;refine pk_ 11 12 4095 ?_;refine done_ (by kernel_rfl) ?_;clear hS;obtain⟨hy0,hy1,hy2,hy3,hy4,hf0,hf1,hf2,hf3,hf4⟩:=d5_ (q_ (FR.o.blk BK3.o G3.o HGW.o));obtain⟨hcz,hfz⟩:=d1_ (q_ (FR.o.blk BK1.o G1.o HGW.o));go_wp2;clear hy0 hy1 hy2 hy3 hy4 hf0 hf1 hf2 hf3 hf4 hcz hfz;replace FR:=q_ FR.o.drew;refine start_ (n:=12) (S:=fun w'=>w'.cell? ⟨g1,0,none⟩=some (.slice (some ad) l.length c)∧w'.cell? ⟨g3,2,none⟩=some (.slice (some ad2) x.f2.length c2)∧w'.cell? ⟨ad2.block,ad2.off+1,none⟩=some (.int .i64 (rd x.f2 1))) (ds:=[]) (bb 12 0) (by kernel_rfl) rfl rfl ⟨(blk_cell (FR.o.blk BK1.o G1.o HGW.o) 0).trans rfl,(blk_cell (FR.o.blk BK3.o G3.o HGW.o) 2).trans rfl,mv_ FR.o.lo HK1.o⟩ (fun hS=>?_);generalize World.drew _=wd at FR hS ⊢;refine pk_ 0 66 1 ?_;refine pk_ 2 68 5 ?_;refine tk_ 1 67 7 hS ?_;refine tk_ 3 69 15 hS ?_;refine pk_ 4 70 31 ?_;refine tk_ 5 71 63 hS ?_;refine one_ (i:=6) (N:=some 72) (bb 12 127) rfl rfl (by kernel_rfl) (by decide) (fun K hK=>?_);refine gs_ Try.func134 #[.pointer (some ⟨g,0,none⟩), .agg #[.slice (some ad) l.length c], .int .i64 (rd x.f2 1)] ?_;(with_reducible refine(HPC1.o.at HQ1.o HN1.o FR.o.st FR.o.lo (FR.o.fr FR0.o)).mono ?_);rintro e w7 ⟨rfl,hI,hB,hK2⟩;refine⟨_,rfl,?_⟩;replace FR:=q_ (FR.o.call hI hB hK2);clear hI hB hK2;refine hK.out _ _ ⟨(blk_cell (FR.o.blk BK1.o G1.o HGW.o) 0).trans rfl,(blk_cell (FR.o.blk BK3.o G3.o HGW.o) 2).trans rfl,mv_ FR.o.lo HK1.o⟩ (fun hS=>?_);clear hK K;refine no_ (some 72) ?_;refine pk_ 7 65 255 ?_;refine pk_ 8 73 511 ?_;refine pk_ 9 74 1023 ?_;refine pk_ 10 13 2047 ?_;refine pk_ 11 14 4095 ?_;refine done_ (by kernel_rfl) ?_;clear hS
   go_wp2_with(first
   | (go_at_call 135;refine(edgeS_hand _ g _ _ _ _ en none 0 [] _ FR.o.st FR.o.lo (FR.o.fr FR0.o) (Kd.C_nil _ _) (Nat.le_refl _) (by simp) (by first|omega| (simp;omega))).mono ?_;rintro e w7 ⟨rfl,hI,hB,hK2⟩;replace FR:=q_ (FR.o.call hI hB hK2);clear hI hB hK2))
   go_ret2
   rw[←HRR.o];exact⟨rfl,FR.o.fin HW.o⟩
  ·rw[if_neg (by omega),if_pos h]at hR
   unfold altN at hR;have hlen:=hl;obtain⟨ad2,e,hk0⟩:=Kd.at_int HI2.o 0 (by omega) (by omega);subst e;rw[show(0:Int).toNat=0 from rfl,Addr.add_zero']at hk0;have HK0:=q_ hk0;clear hk0;have q2:(0<x.f2.length)=True:=eq_true (by omega);have q:=(eq_true (by omega:0<(x.f2.length:Int)):(0<(x.f2.length:Int))=True);have z0:(0≤(0:Int))=True:=eq_true (by omega);obtain⟨ad3,e,hk1⟩:=Kd.at_int HI2.o 1 (by omega) (by omega);obtain rfl:ad2=ad3:=by injection e
   clear e;simp only[show(1:Int).toNat=1 from rfl,Go.Addr.add,Nat.reduceMul,Nat.reduceEqDiff, ↓reduceIte]at hk1;have HK1:=q_ hk1;clear hk1;have q3:(1<x.f2.length)=True:=eq_true (by omega);have qq:=(eq_true (by omega:1<(x.f2.length:Int)):(1<(x.f2.length:Int))=True);have z1:(0≤(1:Int))=True:=eq_true (by omega);have hbn:=(HBP0.o 0 (n,es) HS.o).le (show max 0 (16*k)≤60000 by omega);obtain⟨⟨a,z,n2,es2⟩,hq⟩:∃q,q=P0 (n,es):=⟨_,rfl⟩;rw[←hq]at hbn hR;dsimp only at hbn hR;have hb4:=hbn.1;have hb5:=hbn.2.1;have hb6:=hbn.2.2;dsimp only at hb4 hb5 hb6;have HQ0:=q_ hq;have HN0:=q_ (HS.o.le (show 0≤60000 by omega));have HN1:=q_ hbn;have HPC0:=q_ (HP0.o (by omega));clear hbn hq;have hbn:=(HBP1.o (16*k) (n2,es2) (by have h:=(HBP0.o 0 (n,es) HS.o).le (show max 0 (16*k)≤16*k by omega);rw[←HQ0.o]at h;exact h)).le (show max (16*k) (16*k)≤60000 by omega);obtain⟨⟨b,y,n3,es3⟩,hq⟩:∃q,q=P1 (n2,es2):=⟨_,rfl⟩;rw[←hq]at hbn hR;dsimp only at hbn hR;have hb7:=hbn.1;have hb8:=hbn.2.1;have hb9:=hbn.2.2;dsimp only at hb7 hb8 hb9;have HRR:=q_ hR;clear hR;have HQ1:=q_ hq;have HPC1:=q_ (HP1.o (by omega));clear hbn hq;have e4:(x.f0==4)=true:=beq_iff_eq.mpr h;have ne1:(x.f0==1)=false:=beq_eq_false_iff_ne.mpr (by omega);have ne2:(x.f0==2)=false:=beq_eq_false_iff_ne.mpr (by omega);have ne8:(x.f0==8)=false:=beq_eq_false_iff_ne.mpr (by omega);have ne3:(x.f0==3)=false:=beq_eq_false_iff_ne.mpr (by omega);clear h HOPS HTMS HP0 HP1 HBP0 HBP1 HR HI2;obtain⟨hy0,hy1,hy2,hy3,hy4,hf0,hf1,hf2,hf3,hf4⟩:=d5_ (q_ (FR.o.blk BK3.o G3.o HGW.o));obtain⟨hcz,hfz⟩:=d1_ (q_ (FR.o.blk BK1.o G1.o HGW.o));go_wp2;clear hy0 hy1 hy2 hy3 hy4 hf0 hf1 hf2 hf3 hf4 hcz hfz;replace FR:=q_ FR.o.drew;refine start_ (n:=12) (S:=fun w'=>w'.cell? ⟨g1,0,none⟩=some (.slice (some ad) l.length c)∧w'.cell? ⟨g3,2,none⟩=some (.slice (some ad2) x.f2.length c2)∧w'.cell? ad2=some (.int .i64 (rd x.f2 0))) (ds:=[]) (bb 12 0) (by kernel_rfl) rfl rfl ⟨(blk_cell (FR.o.blk BK1.o G1.o HGW.o) 0).trans rfl,(blk_cell (FR.o.blk BK3.o G3.o HGW.o) 2).trans rfl,mv_ FR.o.lo HK0.o⟩ (fun hS=>?_);generalize World.drew _=wd at FR hS ⊢;refine pk_ 0 52 1 ?_;refine pk_ 2 54 5 ?_;refine tk_ 1 53 7 hS ?_;refine tk_ 3 55 15 hS ?_;refine pk_ 4 56 31 ?_;refine tk_ 5 57 63 hS ?_;refine one_ (i:=6) (N:=some 58) (bb 12 127) rfl rfl (by kernel_rfl) (by decide) (fun K hK=>?_);refine gs_ Try.func134 #[.pointer (some ⟨g,0,none⟩), .agg #[.slice (some ad) l.length c], .int .i64 (rd x.f2 0)] ?_;(with_reducible refine(HPC0.o.at HQ0.o HN0.o FR.o.st FR.o.lo (FR.o.fr FR0.o)).mono ?_);rintro e w7 ⟨rfl,hI,hB,hK2⟩;refine⟨_,rfl,?_⟩;replace FR:=q_ (FR.o.call hI hB hK2);clear hI hB hK2;refine hK.out _ _ ⟨(blk_cell (FR.o.blk BK1.o G1.o HGW.o) 0).trans rfl,(blk_cell (FR.o.blk BK3.o G3.o HGW.o) 2).trans rfl,mv_ FR.o.lo HK0.o⟩ (fun hS=>?_);clear hK K;refine no_ (some 58) ?_;refine pk_ 7 51 255 ?_;refine pk_ 8 59 511 ?_;refine pk_ 9 60 1023 ?_;refine pk_ 10 11 2047 ?_;refine pk_ 11 12 4095 ?_;refine done_ (by kernel_rfl) ?_;clear hS;obtain⟨hy0,hy1,hy2,hy3,hy4,hf0,hf1,hf2,hf3,hf4⟩:=d5_ (q_ (FR.o.blk BK3.o G3.o HGW.o));obtain⟨hcz,hfz⟩:=d1_ (q_ (FR.o.blk BK1.o G1.o HGW.o));go_wp2;clear hy0 hy1 hy2 hy3 hy4 hf0 hf1 hf2 hf3 hf4 hcz hfz;replace FR:=q_ FR.o.drew;refine start_ (n:=12) (S:=fun w'=>w'.cell? ⟨g1,0,none⟩=some (.slice (some ad) l.length c)∧w'.cell? ⟨g3,2,none⟩=some (.slice (some ad2) x.f2.length c2)∧w'.cell? ⟨ad2.block,ad2.off+1,none⟩=some (.int .i64 (rd x.f2 1))) (ds:=[]) (bb 12 0) (by kernel_rfl) rfl rfl ⟨(blk_cell (FR.o.blk BK1.o G1.o HGW.o) 0).trans rfl,(blk_cell (FR.o.blk BK3.o G3.o HGW.o) 2).trans rfl,mv_ FR.o.lo HK1.o⟩ (fun hS=>?_);generalize World.drew _=wd at FR hS ⊢;refine pk_ 0 84 1 ?_;refine pk_ 2 86 5 ?_;refine tk_ 1 85 7 hS ?_;refine tk_ 3 87 15 hS ?_;refine pk_ 4 88 31 ?_;refine tk_ 5 89 63 hS ?_;refine one_ (i:=6) (N:=some 90) (bb 12 127) rfl rfl (by kernel_rfl) (by decide) (fun K hK=>?_);refine gs_ Try.func134 #[.pointer (some ⟨g,0,none⟩), .agg #[.slice (some ad) l.length c], .int .i64 (rd x.f2 1)] ?_;(with_reducible refine(HPC1.o.at HQ1.o HN1.o FR.o.st FR.o.lo (FR.o.fr FR0.o)).mono ?_);rintro e w7 ⟨rfl,hI,hB,hK2⟩;refine⟨_,rfl,?_⟩;replace FR:=q_ (FR.o.call hI hB hK2);clear hI hB hK2;refine hK.out _ _ ⟨(blk_cell (FR.o.blk BK1.o G1.o HGW.o) 0).trans rfl,(blk_cell (FR.o.blk BK3.o G3.o HGW.o) 2).trans rfl,mv_ FR.o.lo HK1.o⟩ (fun hS=>?_);clear hK K;refine no_ (some 90) ?_;refine pk_ 7 83 255 ?_;refine pk_ 8 91 511 ?_;refine pk_ 9 92 1023 ?_;refine pk_ 10 15 2047 ?_;refine pk_ 11 16 4095 ?_;refine done_ (by kernel_rfl) ?_;clear hS
   go_wp2_with(first
   | (go_at_call 145;clear T2;(with_reducible refine(stateS_hand _ g _ _ en _ FR.o.st FR.o.lo (by omega)).mono ?_);rintro e w7 ⟨rfl,hI,hB,hK2⟩;replace FR:=q_ (FR.o.call hI hB hK2);clear hI hB hK2)
   | (go_at_call 145;clear T3;(with_reducible refine(stateS_hand _ g _ _ en _ FR.o.st FR.o.lo (by omega)).mono ?_);rintro e w7 ⟨rfl,hI,hB,hK2⟩;replace FR:=q_ (FR.o.call hI hB hK2);clear hI hB hK2)
   | (go_at_call 135;refine(edgeS_hand _ g _ _ _ _ en none 0 [] _ FR.o.st FR.o.lo (FR.o.fr FR0.o) (Kd.C_nil _ _) (Nat.le_refl _) (by simp) (by first|omega| (simp;omega))).mono ?_;rintro e w7 ⟨rfl,hI,hB,hK2⟩;replace FR:=q_ (FR.o.call hI hB hK2);clear hI hB hK2))
   go_ret2
   have h2:n3+1+1=n3+2:=by omega
   rw[h2]at FR;rw[←HRR.o];exact⟨rfl,FR.o.fin HW.o⟩
 ·have hR:=HRR.o
  clear HRR;unfold stepN at hR;rw[if_neg (by omega),if_neg (by omega),if_neg (by omega)]at hR;by_cases h8:x.f0=8
  ·rw[if_pos h8]at hR
   have HRR:=q_ hR;clear hR;have hlen:=hl;obtain⟨ad2,e,hk0⟩:=Kd.at_int HI2.o 0 (by omega) (by omega);subst e;rw[show(0:Int).toNat=0 from rfl,Addr.add_zero']at hk0;have HK0:=q_ hk0;clear hk0;have q2:(0<x.f2.length)=True:=eq_true (by omega);have q:=(eq_true (by omega:0<(x.f2.length:Int)):(0<(x.f2.length:Int))=True);have z0:(0≤(0:Int))=True:=eq_true (by omega);have ht:=HTMS.o h8;have hxl:0<x.f2.length:=by omega
   have hx34: -1≤x.f4∧x.f4≤30:=by omega
   have hx33:0≤x.f3∧x.f3≤30:=⟨ht.1,ht.2.1⟩;clear ht;have HXL:=q_ hxl;have HX33:=q_ hx33;have HX34:=q_ hx34;clear hxl hx33 hx34;have HPC0:=q_ (HP0.o (by omega));have h:=h8;have e8:(x.f0==8)=true:=beq_iff_eq.mpr h;have ne1:(x.f0==1)=false:=beq_eq_false_iff_ne.mpr (by omega);have ne2:(x.f0==2)=false:=beq_eq_false_iff_ne.mpr (by omega);clear h h8 hlen hl HOPS HTMS HP0 HP1 HBP1 HR HI2;obtain⟨hy0,hy1,hy2,hy3,hy4,hf0,hf1,hf2,hf3,hf4⟩:=d5_ (q_ (FR.o.blk BK3.o G3.o HGW.o));obtain⟨hcz,hfz⟩:=d1_ (q_ (FR.o.blk BK1.o G1.o HGW.o))
   go_wp2_with(first
   | (go_at_call 146;(with_reducible refine(timesS_hand HPC0.o HBP0.o (by omega) _ g n es en x A1 c1 ad2 c2 _ FR.o.st FR.o.lo (FR.o.fr FR0.o) HS.o HK0.o HXL.o HX33.o HX34.o).mono ?_);rintro e w7 ⟨rfl,hI,hB,hK2⟩;replace FR:=q_ (FR.o.call hI hB hK2);clear hI hB hK2))
   go_ret2
   rw[←HRR.o];exact⟨rfl,FR.o.fin HW.o⟩
  ·rw[if_neg h8]at hR
   have hlen:=hl;obtain⟨ad2,e,hk0⟩:=Kd.at_int HI2.o 0 (by omega) (by omega);subst e;rw[show(0:Int).toNat=0 from rfl,Addr.add_zero']at hk0;have HK0:=q_ hk0;clear hk0;have q2:(0<x.f2.length)=True:=eq_true (by omega);have q:=(eq_true (by omega:0<(x.f2.length:Int)):(0<(x.f2.length:Int))=True);have z0:(0≤(0:Int))=True:=eq_true (by omega);have hbn:=(HBP0.o 0 (n,es) HS.o).le (show max 0 (16*k)≤60000 by omega);obtain⟨⟨a,z,n2,es2⟩,hq⟩:∃q,q=P0 (n,es):=⟨_,rfl⟩;rw[←hq]at hbn hR;dsimp only at hbn hR;have hb4:=hbn.1;have hb5:=hbn.2.1;have hb6:=hbn.2.2;dsimp only at hb4 hb5 hb6;have HQ0:=q_ hq;have HN0:=q_ (HS.o.le (show 0≤60000 by omega));have HN1:=q_ hbn;have HPC0:=q_ (HP0.o (by omega));clear hbn hq;have HRR:=q_ hR;clear hR;have ne1:(x.f0==1)=false:=beq_eq_false_iff_ne.mpr (by omega);have ne2:(x.f0==2)=false:=beq_eq_false_iff_ne.mpr (by omega);have ne8:(x.f0==8)=false:=beq_eq_false_iff_ne.mpr (by omega);have ne3:(x.f0==3)=false:=beq_eq_false_iff_ne.mpr (by omega);have ne4:(x.f0==4)=false:=beq_eq_false_iff_ne.mpr (by omega);clear h h8 HOPS HTMS HP0 HP1 HBP0 HBP1 HR HI2;obtain⟨hy0,hy1,hy2,hy3,hy4,hf0,hf1,hf2,hf3,hf4⟩:=d5_ (q_ (FR.o.blk BK3.o G3.o HGW.o));obtain⟨hcz,hfz⟩:=d1_ (q_ (FR.o.blk BK1.o G1.o HGW.o));go_wp2;clear hy0 hy1 hy2 hy3 hy4 hf0 hf1 hf2 hf3 hf4 hcz hfz;replace FR:=q_ FR.o.drew;refine start_ (n:=12) (S:=fun w'=>w'.cell? ⟨g1,0,none⟩=some (.slice (some ad) l.length c)∧w'.cell? ⟨g3,2,none⟩=some (.slice (some ad2) x.f2.length c2)∧w'.cell? ad2=some (.int .i64 (rd x.f2 0))) (ds:=[]) (bb 12 0) (by kernel_rfl) rfl rfl ⟨(blk_cell (FR.o.blk BK1.o G1.o HGW.o) 0).trans rfl,(blk_cell (FR.o.blk BK3.o G3.o HGW.o) 2).trans rfl,mv_ FR.o.lo HK0.o⟩ (fun hS=>?_);generalize World.drew _=wd at FR hS ⊢;refine pk_ 0 52 1 ?_;refine pk_ 2 54 5 ?_;refine tk_ 1 53 7 hS ?_;refine tk_ 3 55 15 hS ?_;refine pk_ 4 56 31 ?_;refine tk_ 5 57 63 hS ?_;refine one_ (i:=6) (N:=some 58) (bb 12 127) rfl rfl (by kernel_rfl) (by decide) (fun K hK=>?_);refine gs_ Try.func134 #[.pointer (some ⟨g,0,none⟩), .agg #[.slice (some ad) l.length c], .int .i64 (rd x.f2 0)] ?_;(with_reducible refine(HPC0.o.at HQ0.o HN0.o FR.o.st FR.o.lo (FR.o.fr FR0.o)).mono ?_);rintro e w7 ⟨rfl,hI,hB,hK2⟩;refine⟨_,rfl,?_⟩;replace FR:=q_ (FR.o.call hI hB hK2);clear hI hB hK2;refine hK.out _ _ ⟨(blk_cell (FR.o.blk BK1.o G1.o HGW.o) 0).trans rfl,(blk_cell (FR.o.blk BK3.o G3.o HGW.o) 2).trans rfl,mv_ FR.o.lo HK0.o⟩ (fun hS=>?_);clear hK K;refine no_ (some 58) ?_;refine pk_ 7 51 255 ?_;refine pk_ 8 59 511 ?_;refine pk_ 9 60 1023 ?_;refine pk_ 10 11 2047 ?_;refine pk_ 11 12 4095 ?_;refine done_ (by kernel_rfl) ?_;clear hS;obtain⟨hy0,hy1,hy2,hy3,hy4,hf0,hf1,hf2,hf3,hf4⟩:=d5_ (q_ (FR.o.blk BK3.o G3.o HGW.o));obtain⟨hcz,hfz⟩:=d1_ (q_ (FR.o.blk BK1.o G1.o HGW.o))
   go_wp2_with(first
   | (go_at_call 147;(with_reducible refine(loopS_hand _ g _ _ _ _ _ en _ FR.o.st FR.o.lo (FR.o.fr FR0.o) (by omega) (by omega)).mono ?_);rintro e w7 ⟨rfl,hI,hB,hK2⟩;replace FR:=q_ (FR.o.call hI hB hK2);clear hI hB hK2))
   go_ret2
   rw[←HRR.o];exact⟨rfl,FR.o.fin HW.o⟩
section
variable {w W:World} {gr t:Nat} {x0 x1 x2 a b c:Value}
theorem fin3_(BR:W.heap[gr]? =some (.cells #[x0,x1,x2] t (0,0))):(((W.setCell ⟨gr,0,none⟩ a).setCell ⟨gr,1,none⟩ b).setCell ⟨gr,2,none⟩ c).heap[gr]? =some (.cells #[a,b,c] t (0,0)):=blk_put (cs:=#[a,b,x2]) (blk_put (cs:=#[a,x1,x2]) (blk_put (cs:=#[x0,x1,x2]) BR 0 _ rfl) 1 _ rfl) 2 _ rfl
theorem fin3R_{α:Type}{d:Kd α}{T base:Nat}{v:Value}{xs:List α}{ok:Nat→Prop}(h:Kd.R d T W base ok v xs)(hf:∀k,ok k→k≠gr):Kd.R d T (((W.setCell ⟨gr,0,none⟩ a).setCell ⟨gr,1,none⟩ b).setCell ⟨gr,2,none⟩ c) base (fun _=>True) v xs:=Kd.R_mono (Kd.R_far (p:=⟨gr,2,none⟩) (Kd.R_far (p:=⟨gr,1,none⟩) (Kd.R_far (p:=⟨gr,0,none⟩) h hf a) hf b) hf c) (fun _ _=>trivial)
theorem fin3S_{α:Type}{d:Kd α}{T base:Nat}{v:Value}{xs:List α}{ok:Nat→Prop}(h:Kd.S d T W base ok v xs)(hf:∀k,ok k→k≠gr):Kd.S d T (((W.setCell ⟨gr,0,none⟩ a).setCell ⟨gr,1,none⟩ b).setCell ⟨gr,2,none⟩ c) base (fun _=>True) v xs:=Kd.S_mono (Kd.S_far (p:=⟨gr,2,none⟩) (Kd.S_far (p:=⟨gr,1,none⟩) (Kd.S_far (p:=⟨gr,0,none⟩) h hf a) hf b) hf c) (fun _ _=>trivial)
theorem finO_{g2 t2:Nat}{y0 y1 y2:Value}(BR:W.heap[g2]? =some (.cells #[y0,y1,y2] t2 (0,0)))(hn:g2≠gr):(((W.setCell ⟨gr,0,none⟩ a).setCell ⟨gr,1,none⟩ b).setCell ⟨gr,2,none⟩ c).heap[g2]? =some (.cells #[y0,y1,y2] t2 (0,0)):=blk_far (blk_far (blk_far BR hn _) hn _) hn _
theorem finB_(h:Below w.heap.size w W)(hg:w.heap.size≤gr):Below w.heap.size w (((W.setCell ⟨gr,0,none⟩ a).setCell ⟨gr,1,none⟩ b).setCell ⟨gr,2,none⟩ c):=below_set (below_set (below_set h hg) hg) hg
end
theorem grown_keep{α:Type}{d:Kd α}{T base g:Nat}{W:World}{v:Value}{xs:List α}{ok:Nat→Prop}{w2:World}(h:Kd.R d T W base ok v xs)(hg:W.grownBy w2 v.ownBlock):KeepB W w2 ok g:=⟨hg.size,fun k hk _ hko=>hg.block k hk (fun e=>hko (h.1 k e.symm))⟩
end Go.Proofs.Ytlecpdpdcocibaa.P
namespace Go.Proofs.Ytlecpdpdcocibaa.P
open Go.RowKit Go.Proofs.YtlecpdpdcocibaaW.PrintWords Go.Proofs.YtlecpdpdcocibaaW.PrintLast Go.Proofs.YtlecpdpdcocibaaW.PrintMore Go.Proofs.YtlecpdpdcocibaaEv
set_option linter.unusedVariables false
set_option linter.unusedSimpArgs false
abbrev NE:=NB × List S138
abbrev TM:=(NB→NR)→Int→Int→NB→NR
def xN(tm:TM)(x:S67)(s:NB):NR:=partN tm x.f0 x.f0.length ((x.f0.length:Int)-1) s
def addN(tm:TM)(x:S67)(i:Int)(q:NE):NE:=(edgeN (xN tm x q.1).2.2 0 (xN tm x q.1).1 [],q.2++ [⟨(xN tm x q.1).2.1,i⟩])
def upN(tm:TM)(l:List S67):Nat→NE
 |0=>((1,[]),[])
 |k+1=>addN tm (rd_T67 l (k:Int)) (k:Int) (upN tm l k)
theorem upN_ends(tm:TM)(l:List S67):∀k,(upN tm l k).2.length=k
 |0=>rfl
 | k+1=>by
   show((upN tm l k).2++ [_]).length=_
   rw[List.length_append,upN_ends tm l k];rfl
def rxN(x:S67):Prop:=1≤x.f0.length∧x.f0.length≤1000∧∀j,j<x.f0.length→nodeAt x.f0 j=true
theorem upN_bn(tm:TM)(htm:∀(C:Nat) (P:NB→NR),BnP C P→∀(mn mx:Int) (s:NB),Bn 0 s→Bn (C+8) (tm P mn mx s).2.2)(l:List S67)(hx:∀x∈l,rxN x):∀k,k≤l.length→Bn (16000+k) (upN tm l k).1
 |0,_=>⟨by show(0:Int)≤1;omega,by show(1:Int)≤_;omega,by show 0≤_;omega⟩
 | k + 1,h=>by
   have hb:=upN_bn tm htm l hx k (by omega);have hm:rd_T67 l (k:Int)∈l:=by
     unfold rd_T67;rw[List.getD_eq_getElem?_getD,List.getElem?_eq_getElem (show(k:Int).toNat<l.length by omega)];exact List.getElem_mem _
   have h2:=(hx _ hm).2.1;have:=part_bn tm htm (rd_T67 l (k:Int)).f0 (rd_T67 l (k:Int)).f0.length (((rd_T67 l (k:Int)).f0.length:Int)-1) (16000+k) _ hb;exact((this.le (show max (16000+k) (16*(rd_T67 l (k:Int)).f0.length)≤16000+k by omega)).edge 0 _ []).le (by omega)
theorem upNS_bn(l:List S67)(hx:∀x∈l,rxN x)(k:Nat)(hk:k≤l.length):Bn (16000+k) (upN timesS l k).1:=upN_bn timesS (fun _ _ hP mn mx s h=>timesS_bn hP mn mx s h) l hx k hk
def okRxs(l:List S67):Bool:=decide (1≤(l.length:Int)∧(l.length:Int)≤40)&&l.all fun x=>rxB x.f0
def nfaP(q:NE):NE × Bool:=if fullN q.1=true then(((0,[]),[]),false)else(q,true)
def nfaA(l:List S67):NE × Bool:=if okRxs l=true then nfaP (upN timesI l l.length)else(((0,[]),[]),false)
end Go.Proofs.Ytlecpdpdcocibaa.P
namespace Go.Proofs.Ytlecpdpdcocibaa.P
open Go.RowKit Go.Shelf Go.Proofs.YtlecpdpdcocibaaW.PrintWords Go.Proofs.YtlecpdpdcocibaaW.PrintLast Go.Proofs.YtlecpdpdcocibaaW.PrintMore Go.Proofs.YtlecpdpdcocibaaEv
set_option linter.unusedVariables false
set_option linter.unusedSimpArgs false
theorem BuildNfaS_hand(A:Option Addr)(c:Nat)(l:List S67)(w:World)(hr:Kd.C k67 w A l.length l)(hc:l.length≤c)(k:Nat)(hl:∀x∈l,spec_RxOk.f k x.f0=some (rxB x.f0))(N:NE)(b:Bool)(h0:okRxs l=false→N=((0,[]),[])∧b=false)(h1:okRxs l=true→∃b2,spec_NfaOk.f k (upN timesS l l.length).1.1 (upN timesS l l.length).1.2 (upN timesS l l.length).2=some b2∧(b2=false→N=((0,[]),[])∧b=false)∧(b2=true→N=upN timesS l l.length∧b=true)):
    Calls Try.prog 113 #[.slice A l.length c] w fun e w'=>∃v0 v1,e= .returned (.tuple #[.agg #[.int .i64 N.1.1,v0,v1], .bool b])∧Kd.S k116 116 w' w.heap.size (fun _=>True) v0 N.1.2∧Kd.R k138 138 w' w.heap.size (fun _=>True) v1 N.2∧Below w.heap.size w w':=by
  have HR:=q_ hr;have HC:=q_ hc;have HL:=q_ hl;have HB:=q_ (Below.refl w.heap.size w);have T0:J0 True:=⟨trivial⟩;have T1:J0 True:=⟨trivial⟩;have T2:J0 True:=⟨trivial⟩;have H0:=q_ h0;have H1:=q_ h1;have hn:=hr.2.1;clear hr hc hl h0 h1;go_enter Try.func113,Try.ntmps113;go_upto_region 2 with(first
   | ((with_reducible refine gate_dst (N:=2) rfl ?_);clear T0;refine bx_ 2 #[.int .i64 0, .slice none 0 0, .slice none 0 0] 60 ?_;intro gr hg wr hbox hb;have Br:=q_ hbox;have Gr:=ge_ hg HB;replace HB:=sb_ HB hb;clear hb hbox hg;obtain⟨hr0,hr1,hr2,fr0,fr1,fr2⟩:=d3_ Br)
   | ((with_reducible refine gate_dst (N:=4) rfl ?_);clear T1;refine bx_ 4 #[.int .i64 0, .slice none 0 0, .slice none 0 0] 60 ?_;intro gn hg wn hbox hb;have Bn:=q_ hbox;have Gn:=ge_ hg HB;have NB:=nl_ hg Br;replace Br:=lb_ Br hb;replace HB:=sb_ HB hb;clear hb hbox hg;obtain⟨hn0,hn1,hn2,fn0,fn1,fn2⟩:=d3_ Bn))
  have Br2:=q_ (finO_ (gr:=gn) (a:= .int .i64 0) (b:= .slice none 0 0) (c:= .slice none 0 0) Br.o NB.o);have Bn2:=q_ (fin3_ (a:= .int .i64 0) (b:= .slice none 0 0) (c:= .slice none 0 0) Bn.o);replace HB:=q_ (finB_ (a:= .int .i64 0) (b:= .slice none 0 0) (c:= .slice none 0 0) HB.o Gn.o);clear Br Bn hr0 hr1 hr2 fr0 fr1 fr2 hn0 hn1 hn2 fn0 fn1 fn2;generalize((wn.setCell ⟨gn,0,none⟩ (.int .i64 0)).setCell ⟨gn,1,none⟩ (.slice none 0 0)).setCell ⟨gn,2,none⟩ (.slice none 0 0)=w2 at *;have Br:=Br2;have Bn:=Bn2;clear Br2 Bn2;obtain⟨hr0,hr1,hr2,fr0,fr1,fr2⟩:=d3_ Br;obtain⟨hn0,hn1,hn2,fn0,fn1,fn2⟩:=d3_ Bn;by_cases c1:(l.length:Int)<1
  ·obtain⟨rfl,rfl⟩:=H0.o (by unfold okRxs;rw[decide_eq_false (by omega),Bool.false_and])
   have d1:decide ((l.length:Int)<1)=true:=dt_ c1;clear H0 H1 c1;go_wp2;refine bodyPost_ret (results_ct rfl _ _ gr 60 #[.int .i64 0, .slice none 0 0, .slice none 0 0] (0,0) _ rfl (fin3_ Br.o) Try.underlying60 rfl (by kernel_rfl)) rfl ?_;exact⟨_,_,rfl,Kd.S_nil _ _ _ _ _,Kd.R_nil _ _ _ _ _,finB_ HB.o Gr.o⟩
  by_cases c2:(l.length:Int)>40
  ·obtain⟨rfl,rfl⟩:=H0.o (by unfold okRxs;rw[decide_eq_false (by omega),Bool.false_and])
   have d1:decide ((l.length:Int)<1)=false:=df_ c1;have d2:decide ((l.length:Int)>40)=true:=dt_ c2;clear H0 H1 c1 c2;go_wp2;refine bodyPost_ret (results_ct rfl _ _ gr 60 #[.int .i64 0, .slice none 0 0, .slice none 0 0] (0,0) _ rfl (fin3_ Br.o) Try.underlying60 rfl (by kernel_rfl)) rfl ?_;exact⟨_,_,rfl,Kd.S_nil _ _ _ _ _,Kd.R_nil _ _ _ _ _,finB_ HB.o Gr.o⟩
  have d1:decide ((l.length:Int)<1)=false:=df_ c1;have d2:decide ((l.length:Int)>40)=false:=df_ c2;have hlen:1≤(l.length:Int)∧(l.length:Int)≤40:=by omega
  have hok:J0 (okRxs l=l.all fun x=>rxB x.f0):=⟨by unfold okRxs;rw[decide_eq_true hlen,Bool.true_and]⟩;clear c1 c2;go_wp2;clear d1 d2 hr0 hr1 hr2 fr0 fr1 fr2 hn0 hn1 hn2 fn0 fn1 fn2
  go_loopg [5] l.length (fun gg v5 wr=>∃kk:Nat,v5= .int .i64 kk∧kk≤l.length∧l.length-kk≤gg∧J0 (okRxs l=(l.drop kk).all fun x=>rxB x.f0)∧J0 (wr.heap[gr]? =some (.cells #[.int .i64 0, .slice none 0 0, .slice none 0 0] 60))∧J0 (wr.heap[gn]? =some (.cells #[.int .i64 0, .slice none 0 0, .slice none 0 0] 60))∧J0 (Below w.heap.size w wr))
  case atStart=>exact⟨0,rfl,Nat.zero_le _,by omega,hok,Br,Bn,HB⟩
  case round=>
    clear hok Br Bn HB;obtain⟨kk,rfl,hkk,hgg,HA,Br,Bn,HB⟩:=hrel;by_cases hlt:kk<l.length
    · have hltz:(kk:Int)<(l.length:Int):=by omega
      have hk0:(0:Int)≤(kk:Int):=by omega
      obtain⟨ad,A1,c1,e1,hx0,hl1,hi1⟩:=at_T67 HR.o (kk:Int) (by omega) hltz;cases e1;rw[Int.toNat_natCast]at hx0;replace hx0:=mv_ HB.o hx0;have hm:rd_T67 l (kk:Int)∈l:=by
        unfold rd_T67;rw[List.getD_eq_getElem?_getD,List.getElem?_eq_getElem (show(kk:Int).toNat<l.length by omega)];exact List.getElem_mem _
      have hxo:=HL.o _ hm;have hst:okRxs l=(rxB (rd_T67 l (kk:Int)).f0&&(l.drop (kk+1)).all fun x=>rxB x.f0):=by
        rw[HA.o,drop_cons l z67 kk hlt];have hr:l.getD kk z67=rd_T67 l (kk:Int):=by simp[rd_T67]
        rw[hr];rfl
      clear hm HA;generalize rd_T67 l (kk:Int)=x at *;have HI1:=q_ hi1;have HL1:=q_ hl1;clear hi1 hl1;cases hq:rxB x.f0
      · rw[hq]at hxo hst
        rw[Bool.false_and]at hst;obtain⟨rfl,rfl⟩:=H0.o hst;have HXO:=q_ hxo;clear H0 H1 hst hxo hq
        go_wp2_with(go_at_call 133;(with_reducible refine(spec_RxOk.calls k _ _ x.f0 _ _ (Kd.C_below HI1.o HB.o) HL1.o HXO.o).mono ?_);rintro e w3 ⟨rfl,hb⟩;replace Br:=lb_ Br hb;replace Bn:=lb_ Bn hb;replace HB:=sb_ HB hb;clear hb;obtain⟨hr0,hr1,hr2,fr0,fr1,fr2⟩:=d3_ Br;obtain⟨hn0,hn1,hn2,fn0,fn1,fn2⟩:=d3_ Bn)
        refine bodyPost_ret (results_ct rfl _ _ gr 60 #[.int .i64 0, .slice none 0 0, .slice none 0 0] (0,0) _ rfl (fin3_ Br.o) Try.underlying60 rfl (by kernel_rfl)) rfl ?_;exact⟨_,_,rfl,Kd.S_nil _ _ _ _ _,Kd.R_nil _ _ _ _ _,finB_ HB.o Gr.o⟩
      · rw[hq]at hxo hst
        rw[Bool.true_and]at hst;have HXO:=q_ hxo;have HST:=q_ hst;clear hst hxo hq
        go_wp2_with(go_at_call 133;(with_reducible refine(spec_RxOk.calls k _ _ x.f0 _ _ (Kd.C_below HI1.o HB.o) HL1.o HXO.o).mono ?_);rintro e w3 ⟨rfl,hb⟩;replace Br:=lb_ Br hb;replace Bn:=lb_ Bn hb;replace HB:=sb_ HB hb;clear hb;obtain⟨hr0,hr1,hr2,fr0,fr1,fr2⟩:=d3_ Br;obtain⟨hn0,hn1,hn2,fn0,fn1,fn2⟩:=d3_ Bn)
        go_roundg (l.length-(kk+1))
        case measure=>omega
        case rel=>exact⟨kk+1,by go_num,by omega,by omega,HST,Br,Bn,HB⟩
    · have e:kk=l.length:=by omega
      subst e;have hok:okRxs l=true:=by rw[HA.o];simp
      obtain⟨b2,hb2,hF,hT⟩:=H1.o hok;have hal:∀x∈l,rxB x.f0=true:=by
        unfold okRxs at hok;exact List.all_eq_true.1 (Bool.and_eq_true_iff.1 hok).2
      have HX:J0 (∀x∈l,rxN x):=⟨fun x hx=>by obtain⟨h1,h2,h3⟩:=rxB_parts (hal x hx);exact⟨h1,by omega,h3⟩⟩;have HBB:=q_ hb2;have HF:=q_ hF;have HT:=q_ hT;have HWR:=q_ HB.o.size;clear hb2 hF hT hok hal HA H0 H1 HL hgg hkk
      go_wp2_with((with_reducible refine gate_dst (N:=35) rfl ?_);clear T2;refine bx_ 35 #[.int .i64 1, .slice none 0 0, .slice none 0 0] 186 ?_;intro g hg wA hbox hb;have BG:=q_ hbox;have NR:=nl_ hg Br;have NN:=nl_ hg Bn;have GG:=ge_ hg HB;replace Br:=lb_ Br hb;replace Bn:=lb_ Bn hb;replace HB:=sb_ HB hb;clear hb hbox hg)
      have FR:J0 (FrB 186 w wA wA (fun k=>wA.heap.size≤k) g (upN timesS l 0).1.1 (upN timesS l 0).1.2 (upN timesS l 0).2):=⟨FrB.here ⟨_,_,BG.o,GG.o,Kd.S_nil _ _ _ _ _,Kd.R_nil _ _ _ _ _⟩ HB.o⟩;clear BG HB
      go_loopg [7] l.length (fun gg v7 wr=>∃kk:Nat,v7= .int .i64 kk∧kk≤l.length∧l.length-kk≤gg∧J0 (FrB 186 w wA wr (fun k=>wA.heap.size≤k) g (upN timesS l kk).1.1 (upN timesS l kk).1.2 (upN timesS l kk).2))
      case atStart=>exact⟨0,rfl,Nat.zero_le _,by omega,FR⟩
      case round=>
        clear FR HWR;obtain⟨kk,rfl,hkk,hgg,FA⟩:=hrel;by_cases hlt:kk<l.length
        · have hltz:(kk:Int)<(l.length:Int):=by omega
          have hk0:(0:Int)≤(kk:Int):=by omega
          obtain⟨ad,A1,c1,e1,hx0,hl1,hi1⟩:=at_T67 HR.o (kk:Int) (by omega) hltz;cases e1;rw[Int.toNat_natCast]at hx0;have HX0:=q_ hx0;clear hx0;have hm:rd_T67 l (kk:Int)∈l:=by
            unfold rd_T67;rw[List.getD_eq_getElem?_getD,List.getElem?_eq_getElem (show(kk:Int).toNat<l.length by omega)];exact List.getElem_mem _
          have hxn:=HX.o _ hm;have hbn:=upNS_bn l HX.o kk hkk;have hbn2:=upNS_bn l HX.o (kk+1) (by omega);have hen:=upN_ends timesS l kk;have hup:upN timesS l (kk+1)=addN timesS (rd_T67 l (kk:Int)) (kk:Int) (upN timesS l kk):=rfl;generalize rd_T67 l (kk:Int)=x at *;generalize hU1:upN timesS l (kk+1)=U1 at *;have HU1:=q_ hU1;clear hU1;obtain⟨⟨⟨n,es⟩,en⟩,hU⟩:∃q,q=upN timesS l kk:=⟨_,rfl⟩;rw[←hU]at FA hbn hen hup;clear hU;dsimp only at FA hbn hen;obtain⟨⟨a,z,n2,es2⟩,hq⟩:∃q,q=xN timesS x (n,es):=⟨_,rfl⟩;unfold addN at hup;dsimp only at hup;rw[←hq]at hup;dsimp only[edgeN]at hup;subst hup;have HQ:=q_ (show(a,z,n2,es2)=partN timesS x.f0 x.f0.length ((x.f0.length:Int)-1) (n,es)from hq);have hs0:=hbn2.2.2;dsimp only at hs0;rw[List.length_append,List.length_singleton]at hs0;have HN1:=q_ (hbn.le (show 16000+kk≤60000 by omega));have hx1:=hxn.1;have hx2:=hxn.2.1;have HP:=q_ (partS_hand (c:=c1) (Kd.C_below hi1 (Below.refl _ _)) hl1 hxn.2.2 x.f0.length ((x.f0.length:Int)-1) (by omega) (by omega) (by omega) (by omega));have HEN:=q_ hen;clear hi1 hl1 hxn hbn hbn2 hm hq hen HX HBB HF HT;have HGW:=q_ (Bd_lt FA.o.st);have HFR:J0 (∀k,wr.heap.size≤k→wA.heap.size≤k):=⟨fun k hk=>Nat.le_trans FA.o.kp.1 hk⟩;go_upto_region 13 with fail
          have q0:=eq_true hk0;have q1:=eq_true hltz;have q2:=eq_true hlt;have FR:=q_ (FrB.drew (FrB.here FA.o.st FA.o.lo));refine start_ (n:=18) (S:=fun w'=>w'.cell? (ad.add kk)=some (.slice A1 x.f0.length c1)) (ds:=[]) (bb 18 0) (by kernel_rfl) rfl rfl (mv_ FR.o.lo HX0.o) (fun hS=>?_);generalize World.drew _=wd at FR hS ⊢;refine pk_ 0 43 1 ?_;refine pk_ 1 44 3 ?_;refine pk_ 2 45 7 ?_;refine pk_ 3 46 15 ?_;refine tk_ 4 47 31 hS ?_;refine pk_ 5 48 63 ?_;refine pk_ 6 49 127 ?_;refine pk_ 7 50 255 ?_;refine pk_ 8 51 511 ?_;refine tk_ 9 52 1023 hS ?_;refine pk_ 10 53 2047 ?_;refine pk_ 11 54 4095 ?_;refine one_ (i:=12) (N:=some 55) (bb 18 8191) rfl rfl (by kernel_rfl) (by decide) (fun K hK=>?_);refine gs_ Try.func134 #[.pointer (some ⟨g,0,none⟩), .agg #[.slice A1 x.f0.length c1], .int .i64 (wrap64 ((x.f0.length:Int)-1))] ?_;rw[wrap_id (x:=(x.f0.length:Int)-1) (by omega) (by omega)];(with_reducible refine(HP.o.at HQ.o HN1.o FR.o.st FR.o.lo (FR.o.fr HFR.o)).mono ?_);rintro e w8 ⟨rfl,hI,hB,hK2⟩;refine⟨_,rfl,?_⟩;replace FR:=q_ (FR.o.call hI hB hK2);clear hI hB hK2;refine hK.out _ _ (mv_ FR.o.lo HX0.o) (fun hS=>?_);clear hK K;refine no_ (some 55) ?_;refine pk_ 13 42 16383 ?_;refine pk_ 14 56 32767 ?_;refine pk_ 15 57 65535 ?_;refine pk_ 16 8 131071 ?_;refine pk_ 17 9 262143 ?_;refine done_ (by kernel_rfl) ?_;clear hS q0 q1 q2
          go_wp2_with(first
            | (go_at_call 135;refine(edgeS_hand _ g _ _ _ _ en none 0 [] _ FR.o.st FR.o.lo (FR.o.fr HFR.o) (Kd.C_nil _ _) (Nat.le_refl _) (by simp) (by omega)).mono ?_;rintro e w9 ⟨rfl,hI,hB,hK2⟩;replace FR:=q_ (FR.o.call hI hB hK2);clear hI hB hK2;obtain⟨v0,v1,hG,hg,hR0,hR1⟩:=FR.o.st;obtain⟨A9,c9,rfl⟩:=Kd.R_slice hR1;have BK:=q_ hG;have GE:=q_ hg;have HO0:=q_ hR0;have HO1:=q_ hR1;have HLO:=q_ FR.o.lo;obtain⟨hb0,hb1,hb2,hbf0,hbf1,hbf2⟩:=d3_ BK;clear hG hg hR0 hR1)
            | ((with_reducible refine gate_builtin (b:= .append) (xs:=#[.tmp 66, .tmp 70]) rfl ?_);at_builtin;refine Kd.R_append k138 (w0:=w) w.heap.size rfl (.tmp 66) (.tmp 70) 58 138 (.agg #[(.int .i64 0),(.int .i64 0)]) 16 rfl Try.underlying58 infoEnd_ rfl (by decide) (by omega) (.slice A9 en.length c9) en (⟨z,(kk:Int)⟩:S138) [.int .i64 z, .int .i64 (kk:Int)] (fun k=>wA.heap.size≤k) (fun _=>False) rfl rfl ?aP (fun _ hk=>hk.elim) ?aF ?aO ?aB ?aS ?aL ?_;(case aP=>exact k138_mkM _ _ _ (⟨z,(kk:Int)⟩:S138));(case aF=>exact FR.o.fr HFR.o);(case aO=>exact HO1.o);(case aB=>exact HLO.o);(case aS=>exact HLO.o.size);(case aL=>have:=HEN.o;omega);intro v2 w2 ho hb hgr hat;obtain⟨A2,c2,e2⟩:=Kd.R_slice ho;subst e2;have hln:(en++ [(⟨z,(kk:Int)⟩:S138)]).length=en.length+1:=(by simp);rw[hln]at ho ⊢;have hne:=Kd.R_ne HO1.o BK.o (by decide);have HOb:=q_ (Kd.S_over' HO0.o (Kd.R_typed HO1.o) (by decide) hgr);have BK2:=q_ (blk_grown BK.o hgr hne);have KP2:=q_ (grown_keep (g:=g) HO1.o hgr);have HO2:=q_ ho;have HB2:=q_ hb;clear hb0 hb1 hb2 hbf0 hbf1 hbf2;obtain⟨hb0,hb1,hb2,hbf0,hbf1,hbf2⟩:=d3_ BK2;clear ho hb hgr hat hne hln))
          go_roundg (l.length-(kk+1))
          case measure=>omega
          case rel=>
            refine⟨kk+1,by go_num,by omega,by omega,?_⟩;rw[HU1.o];have F2:=FR.o.call (W2:=w2.setCell ⟨g,2,none⟩ (.slice A2 (en.length+1) c2)) ⟨_,_,(blk_set BK2.o 2 _).trans rfl,GE.o,Kd.S_set HOb.o BK2.o (by decide) 2 _,Kd.R_set HO2.o BK2.o (by decide) 2 _⟩ (below_set HB2.o GE.o) (KeepB.trans KP2.o (KeepB.set 2 _));obtain⟨f1,f2,f3⟩:=F2.fin0;exact⟨FA.o.call f1 f2 f3⟩
        · have e:kk=l.length:=by omega
          subst e;have keep:∀j,wA.heap[j]? =some (.cells #[.int .i64 0, .slice none 0 0, .slice none 0 0] 60)→j≠g→wr.heap[j]? =some (.cells #[.int .i64 0, .slice none 0 0, .slice none 0 0] 60):=fun j hj hne=>FA.o.kp.blk hj hne (fun h=>Nat.not_lt.2 h (blk_lt hj))
          have hfar:J0 (∀k,wA.heap.size≤k→k≠gr):=⟨fun k hk e=>by have:=blk_lt Br.o;omega⟩;replace Br:=q_ (keep gr Br.o NR.o);replace Bn:=q_ (keep gn Bn.o NN.o);clear keep HR HX;generalize upN timesS l l.length=U at *;obtain⟨⟨n,es⟩,en⟩:=U;dsimp only at FA HBB;have FR:=FA;clear FA;obtain⟨v0,v1,hG,hg,hR0,hR1⟩:=FR.o.st;obtain⟨A9,c9,rfl⟩:=Kd.R_slice hR1;have BK:=q_ hG;have GE:=q_ hg;have HO0:=q_ hR0;have HO1:=q_ hR1;have HLO:=q_ FR.o.lo;obtain⟨hb0,hb1,hb2,hbf0,hbf1,hbf2⟩:=d3_ BK;clear hG hg hR0 hR1;obtain⟨A8,c8,e8⟩:=Kd.S_slice HO0.o;subst e8;have q1:=(Kd.S_reads' HO0.o).2;have q2:=(Kd.R_reads' HO1.o).2;cases b2
          · obtain⟨rfl,rfl⟩:=HF.o rfl
            clear HF HT
            go_wp2_with(go_at_call 75;(with_reducible refine(spec_NfaOk.calls k _ _ _ es _ _ en _ _ q1.2 q1.1 q2.2 q2.1 HBB.o).mono ?_);rintro e w3 ⟨rfl,hb⟩;replace Br:=lb_ Br hb;replace Bn:=lb_ Bn hb;replace BK:=lb_ BK hb;replace HO0:=q_ (Kd.S_below HO0.o hb);replace HO1:=q_ (Kd.R_below HO1.o hb);replace HLO:=sb_ HLO hb;clear hb hb0 hb1 hb2 hbf0 hbf1 hbf2 q1 q2 FR;obtain⟨hr0,hr1,hr2,fr0,fr1,fr2⟩:=d3_ Br;obtain⟨hn0,hn1,hn2,fn0,fn1,fn2⟩:=d3_ Bn;obtain⟨hb0,hb1,hb2,hbf0,hbf1,hbf2⟩:=d3_ BK)
            refine bodyPost_ret (results_ct rfl _ _ gr 60 #[.int .i64 0, .slice none 0 0, .slice none 0 0] (0,0) _ rfl (fin3_ Br.o) Try.underlying60 rfl (by kernel_rfl)) rfl ?_;exact⟨_,_,rfl,Kd.S_nil _ _ _ _ _,Kd.R_nil _ _ _ _ _,finB_ HLO.o Gr.o⟩
          · obtain⟨rfl,rfl⟩:=HT.o rfl
            clear HF HT
            go_wp2_with(go_at_call 75;(with_reducible refine(spec_NfaOk.calls k _ _ _ es _ _ en _ _ q1.2 q1.1 q2.2 q2.1 HBB.o).mono ?_);rintro e w3 ⟨rfl,hb⟩;replace Br:=lb_ Br hb;replace Bn:=lb_ Bn hb;replace BK:=lb_ BK hb;replace HO0:=q_ (Kd.S_below HO0.o hb);replace HO1:=q_ (Kd.R_below HO1.o hb);replace HLO:=sb_ HLO hb;clear hb hb0 hb1 hb2 hbf0 hbf1 hbf2 q1 q2 FR;obtain⟨hr0,hr1,hr2,fr0,fr1,fr2⟩:=d3_ Br;obtain⟨hn0,hn1,hn2,fn0,fn1,fn2⟩:=d3_ Bn;obtain⟨hb0,hb1,hb2,hbf0,hbf1,hbf2⟩:=d3_ BK)
            refine bodyPost_ret (results_ct rfl _ _ gr 60 #[.int .i64 n, .slice A8 es.length c8, .slice A9 en.length c9] (0,0) _ rfl (fin3_ Br.o) Try.underlying60 rfl (by kernel_rfl)) rfl ?_;exact⟨_,_,rfl,fin3S_ HO0.o hfar.o,fin3R_ HO1.o hfar.o,finB_ HLO.o Gr.o⟩
end Go.Proofs.Ytlecpdpdcocibaa.P
namespace Go.Proofs.Ytlecpdpdcocibaa.P
open Go.RowKit Go.Proofs.YtlecpdpdcocibaaW.PrintWords Go.Proofs.YtlecpdpdcocibaaW.PrintLast Go.Proofs.YtlecpdpdcocibaaW.PrintMore
attribute [local go_sem] max2_int min2_int max_two min_two max_three min_three max_four min_four
set_option linter.unusedVariables false
set_option linter.unusedSimpArgs false
def spec_BuildNfa.g(k:Nat)(l0:List (S67)):Option (NE × Bool):=if ∀x∈l0,spec_RxOk.f k x.f0=some (rxB x.f0)then(if okRxs l0=true then(spec_NfaOk.f k (upN timesS l0 l0.length).1.1 (upN timesS l0 l0.length).1.2 (upN timesS l0 l0.length).2).bind (fun b=>some (if b=true then(upN timesS l0 l0.length,true)else(((0,[]),[]),false)))else some (((0,[]),[]),false))else none
def spec_BuildNfa.f(k:Nat)(l0:List (S67)):Option (Int × List (S116) × List (S138) × Bool):=(spec_BuildNfa.g k l0).bind fun r=>some (r.1.1.1,r.1.1.2,r.1.2,r.2)
theorem spec_BuildNfa.calls0(k:Nat)(A0:Option Addr)(c0:Nat)(l0:List (S67))(n:Int)(es:List (S116))(en:List (S138))(b:Bool)(w:World)(hr0:Kd.C k67 w A0 l0.length l0)(hc0:l0.length≤c0)(h:spec_BuildNfa.g k l0=some (((n,es),en),b)):
    Calls Try.prog 113 #[.slice A0 l0.length c0] w fun e w'=>∃v0_ v1_:Value,e= .returned (.tuple #[.agg #[.int .i64 n,v0_,v1_], .bool b])∧Kd.S k116 116 w' w.heap.size (fun _=>True) v0_ es∧Kd.R k138 138 w' w.heap.size (fun _=>True) v1_ en∧Below w.heap.size w w':=by
 unfold spec_BuildNfa.g at h;split at h
 ·rename_i hl
  refine BuildNfaS_hand A0 c0 l0 w hr0 hc0 k hl ((n,es),en) b (fun h0=>?_) (fun h1=>?_)
  ·rw[h0,if_neg (by decide)]at h;have h:=Option.some.inj h;exact⟨(congrArg (·.1) h).symm,(congrArg (·.2) h).symm⟩
  ·rw[h1,if_pos rfl]at h;obtain⟨b2,E,H⟩:=ob_ h;have H:=Option.some.inj H;refine⟨b2,E.o,fun hb=>?_,fun hb=>?_⟩
   ·subst hb;rw[if_neg (by decide)]at H;exact⟨(congrArg (·.1) H).symm,(congrArg (·.2) H).symm⟩
   ·subst hb;rw[if_pos rfl]at H;exact⟨(congrArg (·.1) H).symm,(congrArg (·.2) H).symm⟩
 ·simp at h
theorem spec_BuildNfa.calls(k:Nat)(A0:Option Addr)(c0:Nat)(l0:List (S67))(n:Int)(es:List (S116))(en:List (S138))(b:Bool)(w:World)(hr0:Kd.C k67 w A0 l0.length l0)(hc0:l0.length≤c0)(h:spec_BuildNfa.f k l0=some (n,es,en,b)):
    Calls Try.prog 113 #[.slice A0 l0.length c0] w fun e w'=>∃v0_ v1_:Value,e= .returned (.tuple #[.agg #[.int .i64 n,v0_,v1_], .bool b])∧Kd.S k116 116 w' w.heap.size (fun _=>True) v0_ es∧Kd.R k138 138 w' w.heap.size (fun _=>True) v1_ en∧Below w.heap.size w w':=by
 obtain⟨⟨⟨⟨n',es'⟩,en'⟩,b'⟩,E,H⟩:=ob_ h;obtain⟨rfl,rfl,rfl,rfl⟩:n'=n∧es'=es∧en'=en∧b'=b:=by simpa using H
 exact spec_BuildNfa.calls0 k A0 c0 l0 n' es' en' b' w hr0 hc0 E.o
def spec_l1Class.l0:Nat→List Bool→List (S163)→Int→Option ((List (S163)))
 |0,_,_,_=>none
 |k+1,x0,x3,x4=>if x4<256 then(if 0≤x4 then(if x4<(x0.length:Int)then(if rdOf false x0 x4=true then(if(x3.length:Int)>0 then(if 0≤(wrap64 ((x3.length:Int)-1))then(if(wrap64 ((x3.length:Int)-1))<(x3.length:Int)then(if((rd_T163 x3 (wrap64 ((x3.length:Int)-1))).f1)=(wrap64 (x4-1))then(spec_l1Class.l0 k x0 (x3.set ((wrap64 ((x3.length:Int)-1)):Int).toNat (⟨(rd_T163 x3 (wrap64 ((x3.length:Int)-1))).f0,x4⟩:S163)) (wrap64 (x4+1)))else(if x3.length<8796093022208 then(spec_l1Class.l0 k x0 (x3++ [(⟨x4,x4⟩:S163)]) (wrap64 (x4+1)))else(none)))else(none))else(none))else(if x3.length<8796093022208 then(spec_l1Class.l0 k x0 (x3++ [(⟨x4,x4⟩:S163)]) (wrap64 (x4+1)))else(none)))else(spec_l1Class.l0 k x0 x3 (wrap64 (x4+1))))else(none))else(none))else(some x3)
def spec_l1Class.f(k:Nat)(l0:List Bool):Option ((List (S163))):=spec_l1Class.l0 k l0 (([]:List (S163))) 0
theorem spec_l1Class.calls(k:Nat)(A0:Option Addr)(c0:Nat)(l0:List Bool)(r:List (S163))(w:World)(hr0:Kd.C Kd.bool w A0 l0.length l0)(hc0:l0.length≤c0)(h:spec_l1Class.f k l0=some r):
  Calls Try.prog 148 #[.slice A0 l0.length c0] w fun e w'=>∃v0_:Value,e= .returned (v0_)∧Kd.R k163 163 w' w.heap.size (fun _=>True) v0_ r∧Below w.heap.size w w':=by
 have hu163:=Try.underlying163;have HR0:=q_ hr0;have HC0:=q_ hc0;clear hr0 hc0;have HB:=q_ (Below.refl w.heap.size w);have H:(spec_l1Class.l0 k l0 (([]:List (S163))) 0)=some r:=h;clear h;generalize hy101:([]:List (S163))=y101 at H;have Ny101:=q_ hy101.symm;clear hy101;have H':=q_ H;clear H;go_enter Try.func148,Try.ntmps148
 go_wp2_with(((with_reducible refine gate_dst (N:=5) rfl ?_);(try(refine gate_guard (by rfl) ?_;dsimp only));refine Kd.R_lit k163 _ 163 ?hg (N:=5) ?hd (xs:=([]:List (S163))) (inner:=[]) (ok:=fun _=>True) (okp:=fun _=>True) ?hr ?hp (fun _ hk=>hk) trivial (Below.refl _ _) (Nat.le_refl _) (by simp) ?_;(case hd=>rfl);(case hg=>rfl);(case hr=>first| (go_simp;done)| (go_simp;rfl));(case hp=>exact(Reps.none _ _));intro v102 w2 ho3 hb hg_ hnew_;clear hg_ hnew_;(rw[←Ny101.o]at ho3);have HO103:=q_ (Kd.R_lower ho3 (below_size (be_ HB.o)));replace HB:=sb_ HB hb;clear hb ho3))
 go_loopg [3,4] k (fun kq v3 v4 w'=>∃(x3_1:List (S163)) (x4_1:Int),v4= .int .i64 x4_1∧J0 (spec_l1Class.l0 kq l0 x3_1 x4_1=some r)∧J0 (kq≤k)∧J0 (Kd.R k163 163 w' w.heap.size (fun _=>True) v3 x3_1)∧J0 (Below w.heap.size w w'))
 case atStart=>exact⟨(y101),(0),rs_,H',⟨Nat.le_refl _⟩,⟨ra_ HO103.o⟩,⟨be_ HB.o⟩⟩
 case round=>
  clear H';obtain⟨x3_1,x4_1,rfl,HA,HK1,HO_3,HB⟩:=hrel;cases gk with
  |zero=>exact absurd HA.o (by simp[spec_l1Class.l0])
  | succ k1=>
   have H:=HA.o;clear HA;simp only[spec_l1Class.l0]at H;by_cases c4:x4_1<256;rotate_left
   ·rw[if_neg c4]at H;have c4b0:=df_ c4;clear c4;obtain rfl:=Option.some.inj H;go_wp2
    go_ret
    exact⟨_,rt_,ra_ HO_3.o,be_ HB.o⟩
   rw[if_pos c4]at H;have c4b0:=dt_ c4;clear c4;obtain⟨c5,H⟩:=ip_ H;have c5b0:=dt_ c5;clear c5;obtain⟨c6,H⟩:=ip_ H;have c6b0:=dt_ c6;clear c6;obtain⟨bq7,hbq7⟩:∃b_:Bool,b_=(rdOf false l0 x4_1):=⟨_,rfl⟩;replace H:(if bq7=true then(if(x3_1.length:Int)>0 then(if 0≤(wrap64 ((x3_1.length:Int)-1))then(if(wrap64 ((x3_1.length:Int)-1))<(x3_1.length:Int)then(if((rd_T163 x3_1 (wrap64 ((x3_1.length:Int)-1))).f1)=(wrap64 (x4_1-1))then(spec_l1Class.l0 k1 l0 (x3_1.set ((wrap64 ((x3_1.length:Int)-1)):Int).toNat (⟨(rd_T163 x3_1 (wrap64 ((x3_1.length:Int)-1))).f0,x4_1⟩:S163)) (wrap64 (x4_1+1)))else(if x3_1.length<8796093022208 then(spec_l1Class.l0 k1 l0 (x3_1++ [(⟨x4_1,x4_1⟩:S163)]) (wrap64 (x4_1+1)))else(none)))else(none))else(none))else(if x3_1.length<8796093022208 then(spec_l1Class.l0 k1 l0 (x3_1++ [(⟨x4_1,x4_1⟩:S163)]) (wrap64 (x4_1+1)))else(none)))else(spec_l1Class.l0 k1 l0 x3_1 (wrap64 (x4_1+1))))=some r:=by rw[←hbq7]at H;exact H
   have Nbq7:=q_ hbq7;clear hbq7;by_cases c8:bq7=true;rotate_left
   ·replace c8:=Bool.eq_false_iff.mpr c8;subst c8;rw[if_neg nft_]at H;have H':=q_ H;clear H;have p104:0≤(x4_1:Int):=ot_ as_;have q104:x4_1<(l0.length:Int):=ot_ as_;obtain⟨ad104,e104,hx104_0⟩:=Kd.at_bool HR0.o x4_1 p104 q104
    (try rw[←Nbq7.o]at hx104_0)
    cases e104;replace hx104_0:=mv_ HB.o hx104_0;replace p104:=eq_true p104;replace q104:=eq_true q104;go_wp2
    go_roundg k1
    case measure=>have:=HK1.o;omega
    case rel=>exact⟨(x3_1),(wrap64 (x4_1+1)),rs_,H',⟨by have:=HK1.o;omega⟩,⟨ra_ HO_3.o⟩,⟨be_ HB.o⟩⟩
   subst c8;rw[if_pos rfl]at H;by_cases c9:(x3_1.length:Int)>0;rotate_left
   ·rw[if_neg c9]at H;have c9b0:decide (0<(x3_1.length:Int))=false:=df_ c9;have c9b1:decide (0<x3_1.length)=false:=decide_eq_false (by omega);clear c9;obtain⟨c21,H⟩:=ip_ H;have LMc21:=q_ c21;clear c21;generalize hy110:(x3_1++ [(⟨x4_1,x4_1⟩:S163)]:List (S163))=y110 at H;have Ny110:=q_ hy110.symm;clear hy110;have H':=q_ H;clear H;have p104:0≤(x4_1:Int):=ot_ as_;have q104:x4_1<(l0.length:Int):=ot_ as_;obtain⟨ad104,e104,hx104_0⟩:=Kd.at_bool HR0.o x4_1 p104 q104
    (try rw[←Nbq7.o]at hx104_0)
    cases e104;replace hx104_0:=mv_ HB.o hx104_0;replace p104:=eq_true p104;replace q104:=eq_true q104;obtain⟨Ao22,co22,eo22⟩:=Kd.R_slice HO_3.o;subst eo22
    go_wp2_with(((with_reducible refine gate_builtin (b:= .append) (xs:=#[.tmp 37, .tmp 41]) rfl ?_);(try(refine gate_guard (by rfl) ?_;dsimp only));at_builtin;refine Kd.R_append k163 (w0:=w) w.heap.size rfl (.tmp 37) (.tmp 41) 114 163 (.agg #[(.int .i64 0),(.int .i64 0)]) 16 rfl Try.underlying114 info163 rfl (by decide) (by omega) (.slice Ao22 x3_1.length co22) x3_1 (⟨x4_1,x4_1⟩:S163) [.int .i64 x4_1, .int .i64 x4_1] (fun _=>True) (fun _=>False) rfl rfl ?aP (fun _ hk=>hk.elim) ?aF ?aO ?aB ?aS ?aL ?_;(case aP=>exact k163_mkM _ _ _ (⟨x4_1,x4_1⟩:S163));(case aB=>exact(be_ HB.o));(case aF=>exact(fun _ _=>trivial));(case aO=>exact(ra_ HO_3.o));(case aS=>exact(below_size (be_ HB.o)));(case aL=>have:=LMc21.o;omega);intro v111 w23 ho hb hg hat;rw[←Ny110.o]at ho;have HO112:=q_ (ho);replace HB:=q_ (hb);clear HO_3 ho hb hg hat))
    go_roundg k1
    case measure=>have:=HK1.o;omega
    case rel=>exact⟨(y110),(wrap64 (x4_1+1)),rs_,H',⟨by have:=HK1.o;omega⟩,⟨ra_ HO112.o⟩,⟨be_ HB.o⟩⟩
   rw[if_pos c9]at H;have c9b0:decide (0<(x3_1.length:Int))=true:=dt_ c9;have c9b1:decide (0<x3_1.length)=true:=decide_eq_true (by omega);clear c9;obtain⟨ji10,hji10⟩:∃j_:Int,(wrap64 ((x3_1.length:Int)-1))=j_:=⟨_,rfl⟩;replace H:(if 0≤(ji10)then(if(ji10)<(x3_1.length:Int)then(if((rd_T163 x3_1 (ji10)).f1)=(wrap64 (x4_1-1))then(spec_l1Class.l0 k1 l0 (x3_1.set ((ji10):Int).toNat (⟨(rd_T163 x3_1 (ji10)).f0,x4_1⟩:S163)) (wrap64 (x4_1+1)))else(if x3_1.length<8796093022208 then(spec_l1Class.l0 k1 l0 (x3_1++ [(⟨x4_1,x4_1⟩:S163)]) (wrap64 (x4_1+1)))else(none)))else(none))else(none))=some r:=by(rw[hji10]at H;exact H)
   have hji10w:(IntKind.i64.wrap ((x3_1.length:Int)-1))=ji10:=(i64_w _).trans hji10;obtain⟨c11,H⟩:=ip_ H;have c11b0:=dt_ c11;clear c11;obtain⟨c12,H⟩:=ip_ H;have c12b0:=dt_ c12;clear c12;by_cases c13:((rd_T163 x3_1 (ji10)).f1)=(wrap64 (x4_1-1));rotate_left
   ·rw[if_neg c13]at H;have c13b0:(((rd_T163 x3_1 (ji10)).f1)== (wrap64 (x4_1-1)))=false:=beq_eq_false_iff_ne.mpr c13;have c13b1:(((rd_T163 x3_1 (ji10)).f1) != (wrap64 (x4_1-1)))=true:=bne_iff_ne.mpr c13;obtain⟨c18,H⟩:=ip_ H;have LMc18:=q_ c18;clear c18;generalize hy107:(x3_1++ [(⟨x4_1,x4_1⟩:S163)]:List (S163))=y107 at H;have Ny107:=q_ hy107.symm;clear hy107;have H':=q_ H;clear H;have p104:0≤(x4_1:Int):=ot_ as_;have q104:x4_1<(l0.length:Int):=ot_ as_;obtain⟨ad104,e104,hx104_0⟩:=Kd.at_bool HR0.o x4_1 p104 q104
    (try rw[←Nbq7.o]at hx104_0)
    cases e104;replace hx104_0:=mv_ HB.o hx104_0;replace p104:=eq_true p104;replace q104:=eq_true q104;obtain⟨Ao19,co19,eo19⟩:=Kd.R_slice HO_3.o;subst eo19;have p105:0≤((ji10):Int):=ot_ as_;have q105:(ji10)<(x3_1.length:Int):=ot_ as_;obtain⟨ad105,e105,hx105_0,hx105_1⟩:=at_T163 (Kd.R_reads' HO_3.o).2.2 (ji10) p105 q105;cases e105;replace p105:=eq_true p105;replace q105:=eq_true q105
    go_wp2_with(((with_reducible refine gate_builtin (b:= .append) (xs:=#[.tmp 37, .tmp 41]) rfl ?_);(try(refine gate_guard (by rfl) ?_;dsimp only));at_builtin;refine Kd.R_append k163 (w0:=w) w.heap.size rfl (.tmp 37) (.tmp 41) 114 163 (.agg #[(.int .i64 0),(.int .i64 0)]) 16 rfl Try.underlying114 info163 rfl (by decide) (by omega) (.slice (some ad105) x3_1.length co19) x3_1 (⟨x4_1,x4_1⟩:S163) [.int .i64 x4_1, .int .i64 x4_1] (fun _=>True) (fun _=>False) rfl rfl ?aP (fun _ hk=>hk.elim) ?aF ?aO ?aB ?aS ?aL ?_;(case aP=>exact k163_mkM _ _ _ (⟨x4_1,x4_1⟩:S163));(case aB=>exact(be_ HB.o));(case aF=>exact(fun _ _=>trivial));(case aO=>exact(ra_ HO_3.o));(case aS=>exact(below_size (be_ HB.o)));(case aL=>have:=LMc18.o;omega);intro v108 w20 ho hb hg hat;rw[←Ny107.o]at ho;have HO109:=q_ (ho);replace HB:=q_ (hb);clear HO_3 ho hb hg hat))
    go_roundg k1
    case measure=>have:=HK1.o;omega
    case rel=>exact⟨(y107),(wrap64 (x4_1+1)),rs_,H',⟨by have:=HK1.o;omega⟩,⟨ra_ HO109.o⟩,⟨be_ HB.o⟩⟩
   rw[if_pos c13]at H;have c13b0:(((rd_T163 x3_1 (ji10)).f1)== (wrap64 (x4_1-1)))=true:=beq_iff_eq.mpr c13;have c13b1:(((rd_T163 x3_1 (ji10)).f1) != (wrap64 (x4_1-1)))=false:=bne_eq_false_iff_eq.mpr c13;clear c13;generalize hy106:(x3_1.set ((ji10):Int).toNat (⟨(rd_T163 x3_1 (ji10)).f0,x4_1⟩:S163):List (S163))=y106 at H;have Ny106:=q_ hy106.symm;clear hy106;have H':=q_ H;clear H;have p104:0≤(x4_1:Int):=ot_ as_;have q104:x4_1<(l0.length:Int):=ot_ as_;obtain⟨ad104,e104,hx104_0⟩:=Kd.at_bool HR0.o x4_1 p104 q104
   (try rw[←Nbq7.o]at hx104_0)
   cases e104;replace hx104_0:=mv_ HB.o hx104_0;replace p104:=eq_true p104;replace q104:=eq_true q104;obtain⟨Ao15,co15,eo15⟩:=Kd.R_slice HO_3.o;subst eo15;have p105:0≤((ji10):Int):=ot_ as_;have q105:(ji10)<(x3_1.length:Int):=ot_ as_;obtain⟨ad105,e105,hx105_0,hx105_1⟩:=at_T163 (Kd.R_reads' HO_3.o).2.2 (ji10) p105 q105;cases e105;replace p105:=eq_true p105;replace q105:=eq_true q105;have p14:0≤((ji10):Int):=ot_ as_;have q14:((ji10):Int)<((x3_1.length:Int):Int):=ot_ as_;obtain⟨go14,co14,eo14,gb14,gl14,cl14,HG14⟩:=Kd.R_form HO_3.o (by omega);(cases eo14);have GB14:=q_ gb14;have GG14:=q_ HG14;clear gb14 gl14 HG14
   (simp only[add_plain]at hx105_0)
   (simp only[add_plain]at hx105_1)
   obtain⟨ce14,hcl14,hM14,hcc14,hfr14⟩:=Kd.R_elem HO_3.o z163 ((ji10):Int) p14 q14;obtain rfl:=k163_openM hM14;have hx14_0:wr.cell? ⟨go14,((ji10):Int).toNat*2,none⟩=some (.int .i64 ((rd_T163 x3_1 (ji10)).f0)):=hcc14 0 _ rfl;have hx14_1:wr.cell? ⟨go14,((ji10):Int).toNat*2+1,none⟩=some (.int .i64 ((rd_T163 x3_1 (ji10)).f1)):=hcc14 1 _ rfl;have hf14_0:wr.frozen? ⟨go14,((ji10):Int).toNat*2,none⟩=false:=hfr14 0;have hf14_1:wr.frozen? ⟨go14,((ji10):Int).toNat*2+1,none⟩=false:=hfr14 1;clear hcl14 hcc14 hfr14 hM14;replace p14:=eq_true p14;replace q14:=eq_true q14;have HX16:=q_ (show Kd.R k163 163 wr w.heap.size (fun _=>True) (.slice (some ⟨go14,0,none⟩) x3_1.length co15) x3_1 from(ra_ HO_3.o));obtain⟨ce16,hcl16,hM16,hcc16,hfr16⟩:=Kd.R_elem HX16.o z163 ((ji10):Int) (ot_ as_) (by have h_:((ji10):Int)<((x3_1.length:Int):Int):=ot_ as_;first|exact h_| (have e_:=(Kd.R_reads' HO_3.o).1;omega)|simpa using h_);obtain rfl:=k163_openM hM16;have HP16:=Kd.R_seg HX16.o ((ji10):Int) (ot_ as_) (by have h_:((ji10):Int)<((x3_1.length:Int):Int):=ot_ as_;first|exact h_| (have e_:=(Kd.R_reads' HO_3.o).1;omega)|simpa using h_) (seg:=[.int .i64 x4_1]) (j:=1) hcl16 hcc16 (show 2≤2 from by decide) (x':=(⟨(rd_T163 x3_1 (ji10)).f0,x4_1⟩:S163)) (k163_mkM _ _ _ (⟨(rd_T163 x3_1 (ji10)).f0,x4_1⟩:S163)) (fun _ hk=>hk);have hx16_1:=hcc16 1 _ rfl
   (try simp only[show(k163).sz=2 from rfl,Nat.mul_one,Nat.add_zero]at hx16_1)
   have hf16_1:=hfr16 1
   (try simp only[show(k163).sz=2 from rfl,Nat.mul_one,Nat.add_zero]at hf16_1)
   clear hcl16 hcc16 hfr16 hM16
   go_wp2_with(((with_reducible refine gate_store (t:=2) (p:=36) rfl ?_);refine store_event (t:=2) (p:=36) (v:=?vo_w17) (w1:=(wr.setCell ⟨go14,((ji10):Int).toNat*2+1,none⟩ (.int .i64 x4_1))) ?hg ?ho ?hn ?hr ?_;(case ho=>rfl);(case hg=>rfl);(case hn=>rfl);(case hr=>first| (go_simp;done)| (go_simp;rfl));intro w17 hw;have hg:wr.grownBy w17 (some go14):=(by rw[hw];exact HP16.2);have hp_:Kd.R k163 163 w17 w.heap.size (fun _=>True) (.slice (some ⟨go14,0,none⟩) x3_1.length co15) y106:=(by rw[hw,Ny106.o];exact HP16.1);clear HP16;replace HO_3:=q_ (hp_);replace HB:=q_ ((by rw[hw];exact below_set (HB.o) GB14.out:Below w.heap.size w w17));clear hg hw hp_))
   go_roundg k1
   case measure=>have:=HK1.o;omega
   case rel=>exact⟨(y106),(wrap64 (x4_1+1)),rs_,H',⟨by have:=HK1.o;omega⟩,⟨ra_ HO_3.o⟩,⟨be_ HB.o⟩⟩
mutual
def spec_l1Rd_class.l0:Nat→List Bool→Int→List Int→Int→Option ((List (S163)) × Int)
 |0,_,_,_,_=>none
 |k+1,x3,x4,x1000,x1001=>if x4>0 then((spec_l1Rd_below.f x1000 x1001 256).bind fun bt109=>((spec_l1Rd_once.f x1000 bt109.2 2).bind fun bt111=>(if bt111.1=true then((spec_l1Rd_below.f x1000 bt111.2 8).bind fun bt113=>(spec_l1Rd_class.j1 k x3 x4 (wrap64 (97+bt113.1)) x1000 bt113.2))else(spec_l1Rd_class.j1 k x3 x4 bt109.1 x1000 bt111.2))))else((spec_l1Class.f k x3).bind fun t106=>(some (t106,x1001)))
def spec_l1Rd_class.j1:Nat→List Bool→Int→Int→List Int→Int→Option ((List (S163)) × Int)
 |0,_,_,_,_,_=>none
 |k+1,x3,x4,x5,x1000,x1001=>spec_l1Rd_class.l1 k x3 x4 x5 x5 x1000 x1001
def spec_l1Rd_class.l1:Nat→List Bool→Int→Int→Int→List Int→Int→Option ((List (S163)) × Int)
 |0,_,_,_,_,_,_=>none
 |k+1,x3,x4,x5,x6,x1000,x1001=>if x6<256 then((spec_l1Rd_below.f x1000 x1001 6).bind fun bt115=>(if x6≤(wrap64 (x5+bt115.1))then(if 0≤x6 then(if x6<(x3.length:Int)then(spec_l1Rd_class.l1 k (x3.set (x6:Int).toNat true) x4 x5 (wrap64 (x6+1)) x1000 bt115.2)else(none))else(none))else(spec_l1Rd_class.l0 k x3 (wrap64 (x4-1)) x1000 bt115.2)))else(spec_l1Rd_class.l0 k x3 (wrap64 (x4-1)) x1000 x1001)
end
def spec_l1Rd_class.f(k:Nat)(s0_0:List Int)(s0_1:Int):Option ((List (S163)) × Int):=if 256≤281474976710656 then((spec_l1Rd_below.f s0_0 s0_1 5).bind fun bt104=>(spec_l1Rd_class.l0 k (List.replicate 256 false) bt104.1 s0_0 bt104.2))else(none)
theorem spec_l1Rd_class.calls(k:Nat)(g:Nat)(s0_0:List Int)(s0_1:Int)(r1:List (S163))(r2:Int)(w0 w:World)(hI:IsS149 w0 w g s0_0 s0_1)(hB:Below w0.heap.size w0 w)(h:spec_l1Rd_class.f k s0_0 s0_1=some (r1,r2)):
  Calls Try.prog 136 #[.pointer (some ⟨g,0,none⟩)] w fun e w'=>∃v0_:Value,e= .returned (v0_)∧Kd.R k163 163 w' w.heap.size (fun _=>True) v0_ r1∧IsS149 w0 w' g s0_0 r2∧Below w0.heap.size w0 w'∧KeepBut w w' g none:=by
 have HI0:=q_ hI;have HK:=q_ (KeepBut.refl w g none);have HL:=q_ hB.size;clear hI;have HW0:=q_ hB.size;have HB:=q_ hB;clear hB;have H:(if 256≤281474976710656 then((spec_l1Rd_below.f s0_0 s0_1 5).bind fun bt104=>(spec_l1Rd_class.l0 k (List.replicate 256 false) bt104.1 s0_0 bt104.2))else(none))=some (r1,r2):=h;clear h;obtain⟨c2,H⟩:=ip_ H;have c2b0:=eq_true c2;have c2b1:=dt_ c2;clear c2;generalize hy101:(List.replicate 256 false:List Bool)=y101 at H;have Ny101:=q_ hy101.symm;clear hy101;replace H:=Option.bind_eq_some_iff.mp H;obtain⟨⟨t104,t105⟩,A30,H⟩:=H;dsimp only at H;have A3:=q_ A30;clear A30;have H':=q_ H;clear H;go_enter Try.func136,Try.ntmps136
 go_wp2_with(first| ((with_reducible refine gate_dst (N:=7) rfl ?_);refine Kd.R_make Kd.bool _ 4 rfl (N:=7) rfl 119 _ _ rfl 256 rfl rfl Try.underlying119 (.bool false) 1 info4 rfl (by decide) (by omega) false (ok:=fun _=>True) (okp:=fun _=>True) rfl (fun _ hk=>hk) trivial (by omega) (by omega) (Below.refl _ _) (Nat.le_refl _) ?_;intro v102 w4 ho5 hb hg_ hnew_;clear hg_ hnew_;((simp only[Int.reduceToNat]at ho5;rw[←Ny101.o]at ho5));have HO103:=q_ (Kd.R_lower ho5 (ks_ HK));replace HK:=kb_ HK hb;replace HB:=q_ (below_step (be1_ HB.o (IsS149.ge HI0.o)) hb);replace HI0:=ib_ HI0 hb;clear hb ho5)| ((with_reducible refine gate_callee (f:=66) rfl ?_);refine gl_ (some 9) rfl rfl Try.func66 #[.pointer (some ⟨g,0,none⟩), .int .i64 5] ?_;(with_reducible refine(spec_l1Rd_below.calls g s0_0 s0_1 5 t104 t105 w0 _ ?side1 ?side2 A3.o).mono ?_);(case side1=>exact si_ HI0);(case side2=>exact be1_ HB.o (IsS149.ge HI0.o));rintro e w6 ⟨rfl,hi,hb,hk⟩;refine⟨_,rfl,?_⟩;replace HO103:=q_ (Kd.R_mono (Kd.R_keep (IsS149.apart (show IsS149 w0 _ g s0_0 s0_1 from si_ HI0) (ra_ HO103.o) (by decide)) hk (fun _ h=>h.2)) (fun _ h=>h.1));replace HK:=kt_ HK hk;replace HB:=q_ (hb);replace HI0:=q_ (hi);clear hb))
 go_loopg [4] k (fun kq v4 w'=>∃(x3_1:List Bool) (x4_1:Int) (x1001_1:Int),v4= .int .i64 x4_1∧J0 (spec_l1Rd_class.l0 kq x3_1 x4_1 s0_0 x1001_1=some (r1,r2))∧J0 (kq≤k)∧J0 (Kd.R Kd.bool 4 w' w.heap.size (fun _=>True) v102 x3_1)∧J0 (IsS149 w0 w' g s0_0 x1001_1)∧J0 (KeepBut w w' g none)∧J0 (Below w0.heap.size w0 w'))
 case atStart=>exact⟨(y101),(t104),(t105),rs_,H',⟨Nat.le_refl _⟩,⟨ra_ HO103.o⟩,⟨si_ HI0⟩,⟨kp_ HK⟩,⟨be1_ HB.o (IsS149.ge HI0.o)⟩⟩
 case round=>
  clear H';clear c2b0 c2b1;obtain⟨x3_1,x4_1,x1001_1,rfl,HA,HK1,HO_3,HI0,HK,HB⟩:=hrel;cases gk with
  |zero=>exact absurd HA.o (by simp[spec_l1Rd_class.l0])
  | succ k1=>
   have H:=HA.o;clear HA;simp only[spec_l1Rd_class.l0]at H;by_cases c7:x4_1>0;rotate_left
   ·rw[if_neg c7]at H;have c7b0:decide (0<x4_1)=false:=df_ c7;clear c7;obtain⟨t106,A26,H⟩:=ob_ H;simp only[Option.some.injEq,Prod.mk.injEq]at H;obtain⟨rfl,rfl⟩:=H;obtain⟨Ao27,co27,eo27⟩:=Kd.R_slice HO_3.o;subst eo27
    go_wp2_with(((with_reducible refine gate_callee (f:=148) rfl ?_);refine gl_ (some 38) rfl rfl Try.func148 #[.slice Ao27 x3_1.length co27] ?_;(with_reducible refine(spec_l1Class.calls k1 _ _ x3_1 t106 _ ?side1 ?side2 A26.o).mono ?_);(case side1=>exact ca_ (Kd.R_reads' HO_3.o).2.2);(case side2=>exact(Kd.R_reads' HO_3.o).2.1);rintro e w28 ⟨v107,rfl,ho0,hb⟩;refine⟨_,rfl,?_⟩;have HO108:=q_ (Kd.R_lower ho0 (ks_ HK));replace HO_3:=bR_ HO_3 hb;replace HK:=kb_ HK hb;replace HB:=q_ (below_step (be1_ HB.o (IsS149.ge HI0.o)) hb);replace HI0:=ib_ HI0 hb;clear hb ho0))
    go_ret
    exact⟨_,rt_,ra_ HO108.o,si_ HI0,be1_ HB.o (IsS149.ge HI0.o),kp_ HK⟩
   rw[if_pos c7]at H;have c7b0:decide (0<x4_1)=true:=dt_ c7;clear c7;replace H:=Option.bind_eq_some_iff.mp H;obtain⟨⟨t109,t110⟩,A80,H⟩:=H;dsimp only at H;have A8:=q_ A80;clear A80;replace H:=Option.bind_eq_some_iff.mp H;obtain⟨⟨t111,t112⟩,A90,H⟩:=H;dsimp only at H;have A9:=q_ A90;clear A90;have HC10:=q_ H;clear H
   go_upto_if 17 with(first| ((with_reducible refine gate_callee (f:=66) rfl ?_);refine gl_ (some 15) rfl rfl Try.func66 #[.pointer (some ⟨g,0,none⟩), .int .i64 256] ?_;(with_reducible refine(spec_l1Rd_below.calls g s0_0 x1001_1 256 t109 t110 w0 _ ?side1 ?side2 A8.o).mono ?_);(case side1=>exact si_ HI0);(case side2=>exact be1_ HB.o (IsS149.ge HI0.o));rintro e w11 ⟨rfl,hi,hb,hk⟩;refine⟨_,rfl,?_⟩;replace HO_3:=q_ (Kd.R_mono (Kd.R_keep (IsS149.apart (show IsS149 w0 _ g s0_0 x1001_1 from si_ HI0) (ra_ HO_3.o) (by decide)) hk (fun _ h=>h.2)) (fun _ h=>h.1));replace HK:=kt_ HK hk;replace HB:=q_ (hb);replace HI0:=q_ (hi);clear hb)| ((with_reducible refine gate_callee (f:=55) rfl ?_);refine gl_ (some 17) rfl rfl Try.func55 #[.pointer (some ⟨g,0,none⟩), .int .i64 2] ?_;(with_reducible refine(spec_l1Rd_once.calls g s0_0 t110 2 t111 t112 w0 _ ?side1 ?side2 A9.o).mono ?_);(case side1=>exact si_ HI0);(case side2=>exact be1_ HB.o (IsS149.ge HI0.o));rintro e w12 ⟨rfl,hi,hb,hk⟩;refine⟨_,rfl,?_⟩;replace HO_3:=q_ (Kd.R_mono (Kd.R_keep (IsS149.apart (show IsS149 w0 _ g s0_0 t110 from si_ HI0) (ra_ HO_3.o) (by decide)) hk (fun _ h=>h.2)) (fun _ h=>h.1));replace HK:=kt_ HK hk;replace HB:=q_ (hb);replace HI0:=q_ (hi);clear hb))
   (try simp only[Act.put,List.setIfInBounds_toArray,List.set_cons_zero,List.set_cons_succ])
   go_cut [5] (fun v5 wc=>∃(kq:Nat) (x5_9:Int) (x1001_9:Int),v5= .int .i64 x5_9∧J0 (spec_l1Rd_class.j1 kq x3_1 x4_1 x5_9 s0_0 x1001_9=some (r1,r2))∧J0 (kq≤k1)∧J0 (Kd.R Kd.bool 4 wc w.heap.size (fun _=>True) v102 x3_1)∧J0 (IsS149 w0 wc g s0_0 x1001_9)∧J0 (KeepBut w wc g none)∧J0 (Below w0.heap.size w0 wc))
   case first=>
    have H:=HC10.o;clear HC10;by_cases c13:t111=true;rotate_left
    ·replace c13:=Bool.eq_false_iff.mpr c13;subst c13;rw[if_neg nft_]at H;have H':=q_ H;clear H;go_wp2
     go_meet
     case rel=>exact⟨_,(t109),(t112),rs_,H',⟨by have:=HK1.o;first|omega|exact Nat.le_refl _⟩,⟨ra_ HO_3.o⟩,⟨si_ HI0⟩,⟨kp_ HK⟩,⟨be1_ HB.o (IsS149.ge HI0.o)⟩⟩
    subst c13;rw[if_pos rfl]at H;replace H:=Option.bind_eq_some_iff.mp H;obtain⟨⟨t113,t114⟩,A140,H⟩:=H;dsimp only at H;have A14:=q_ A140;clear A140;have H':=q_ H;clear H
    go_wp2_with(((with_reducible refine gate_callee (f:=66) rfl ?_);refine gl_ (some 19) rfl rfl Try.func66 #[.pointer (some ⟨g,0,none⟩), .int .i64 8] ?_;(with_reducible refine(spec_l1Rd_below.calls g s0_0 t112 8 t113 t114 w0 _ ?side1 ?side2 A14.o).mono ?_);(case side1=>exact si_ HI0);(case side2=>exact be1_ HB.o (IsS149.ge HI0.o));rintro e w15 ⟨rfl,hi,hb,hk⟩;refine⟨_,rfl,?_⟩;replace HO_3:=q_ (Kd.R_mono (Kd.R_keep (IsS149.apart (show IsS149 w0 _ g s0_0 t112 from si_ HI0) (ra_ HO_3.o) (by decide)) hk (fun _ h=>h.2)) (fun _ h=>h.1));replace HK:=kt_ HK hk;replace HB:=q_ (hb);replace HI0:=q_ (hi);clear hb))
    go_meet
    case rel=>exact⟨_,(wrap64 (97+t113)),(t114),rs_,H',⟨by have:=HK1.o;first|omega|exact Nat.le_refl _⟩,⟨ra_ HO_3.o⟩,⟨si_ HI0⟩,⟨kp_ HK⟩,⟨be1_ HB.o (IsS149.ge HI0.o)⟩⟩
   case rest=>
    clear HC10 c7b0;obtain⟨kq,x5_9,x1001_9,rfl,HA,HJ9,HO_3,HI0,HK,HB⟩:=hcut;cases kq with
    |zero=>exact absurd HA.o (by simp[spec_l1Rd_class.j1])
    | succ kj9=>
     have H:=HA.o;clear HA;simp only[spec_l1Rd_class.j1]at H;have H':=q_ H;clear H;go_wp2
     go_loopg [6] kj9 (fun kq v6 w'=>∃(x3_3:List Bool) (x6_3:Int) (x1001_3:Int),v6= .int .i64 x6_3∧J0 (spec_l1Rd_class.l1 kq x3_3 x4_1 x5_9 x6_3 s0_0 x1001_3=some (r1,r2))∧J0 (kq≤kj9)∧J0 (Kd.R Kd.bool 4 w' w.heap.size (fun _=>True) v102 x3_3)∧J0 (IsS149 w0 w' g s0_0 x1001_3)∧J0 (KeepBut w w' g none)∧J0 (Below w0.heap.size w0 w'))
     case atStart=>exact⟨(x3_1),(x5_9),(x1001_9),rs_,H',⟨Nat.le_refl _⟩,⟨ra_ HO_3.o⟩,⟨si_ HI0⟩,⟨kp_ HK⟩,⟨be1_ HB.o (IsS149.ge HI0.o)⟩⟩
     case round=>
      clear H';obtain⟨x3_3,x6_3,x1001_3,rfl,HA,HK3,HO_3,HI0,HK,HB⟩:=hrel;cases gk with
      |zero=>exact absurd HA.o (by simp[spec_l1Rd_class.l1])
      | succ k3=>
       have H:=HA.o;clear HA;simp only[spec_l1Rd_class.l1]at H;by_cases c16:x6_3<256;rotate_left
       ·rw[if_neg c16]at H;have c16b0:=df_ c16;clear c16;have H':=q_ H;clear H;go_wp2
        go_roundg k3
        case measure=>have:=HK1.o;have:=HJ9.o;have:=HK3.o;omega
        case rel=>exact⟨(x3_3),(wrap64 (x4_1-1)),(x1001_3),rs_,H',⟨by have:=HK1.o;have:=HJ9.o;have:=HK3.o;omega⟩,⟨ra_ HO_3.o⟩,⟨si_ HI0⟩,⟨kp_ HK⟩,⟨be1_ HB.o (IsS149.ge HI0.o)⟩⟩
       rw[if_pos c16]at H;have c16b0:=dt_ c16;clear c16;replace H:=Option.bind_eq_some_iff.mp H;obtain⟨⟨t115,t116⟩,A170,H⟩:=H;dsimp only at H;have A17:=q_ A170;clear A170;by_cases c18:x6_3≤(wrap64 (x5_9+t115));rotate_left
       ·rw[if_neg c18]at H;have c18b0:=df_ c18;clear c18;have H':=q_ H;clear H
        go_wp2_with((go_at_call 66;(with_reducible refine(spec_l1Rd_below.calls g s0_0 x1001_3 6 t115 t116 w0 _ ?side1 ?side2 A17.o).mono ?_);(case side1=>exact si_ HI0);(case side2=>exact be1_ HB.o (IsS149.ge HI0.o));rintro e w25 ⟨rfl,hi,hb,hk⟩;replace HO_3:=q_ (Kd.R_mono (Kd.R_keep (IsS149.apart (show IsS149 w0 _ g s0_0 x1001_3 from si_ HI0) (ra_ HO_3.o) (by decide)) hk (fun _ h=>h.2)) (fun _ h=>h.1));replace HK:=kt_ HK hk;replace HB:=q_ (hb);replace HI0:=q_ (hi);clear hb))
        go_roundg k3
        case measure=>have:=HK1.o;have:=HJ9.o;have:=HK3.o;omega
        case rel=>exact⟨(x3_3),(wrap64 (x4_1-1)),(t116),rs_,H',⟨by have:=HK1.o;have:=HJ9.o;have:=HK3.o;omega⟩,⟨ra_ HO_3.o⟩,⟨si_ HI0⟩,⟨kp_ HK⟩,⟨be1_ HB.o (IsS149.ge HI0.o)⟩⟩
       rw[if_pos c18]at H;have c18b0:=dt_ c18;clear c18;obtain⟨c19,H⟩:=ip_ H;have c19b0:=dt_ c19;clear c19;obtain⟨c20,H⟩:=ip_ H;have c20b0:=dt_ c20;clear c20;generalize hy117:(x3_3.set (x6_3:Int).toNat true:List Bool)=y117 at H;have Ny117:=q_ hy117.symm;clear hy117;have H':=q_ H;clear H
       go_wp2_with(first| (go_at_call 66;(with_reducible refine(spec_l1Rd_below.calls g s0_0 x1001_3 6 t115 t116 w0 _ ?side1 ?side2 A17.o).mono ?_);(case side1=>exact si_ HI0);(case side2=>exact be1_ HB.o (IsS149.ge HI0.o));rintro e w22 ⟨rfl,hi,hb,hk⟩;replace HO_3:=q_ (Kd.R_mono (Kd.R_keep (IsS149.apart (show IsS149 w0 _ g s0_0 x1001_3 from si_ HI0) (ra_ HO_3.o) (by decide)) hk (fun _ h=>h.2)) (fun _ h=>h.1));replace HK:=kt_ HK hk;replace HB:=q_ (hb);replace HI0:=q_ (hi);clear hb;have p21:0≤(x6_3:Int):=ot_ as_;have q21:(x6_3:Int)<((x3_3.length:Int):Int):=ot_ as_;obtain⟨go21,co21,eo21,gb21,gl21,cl21,HG21⟩:=Kd.R_form HO_3.o (by omega);(cases eo21);have GB21:=q_ gb21;have GG21:=q_ HG21;clear gb21 gl21 HG21;obtain⟨hx21_0,hf21_0⟩:=Kd.R_celln false HO_3.o (x6_3:Int) p21 q21;replace p21:=eq_true p21;replace q21:=eq_true q21;obtain⟨hy23_,hz23_⟩:=Kd.R_celln false HO_3.o (x6_3:Int) (ot_ as_) (ot_ as_);have HP23:=Kd.R_putg HO_3.o (x6_3:Int) true)| ((with_reducible refine gate_store (t:=4) (p:=36) rfl ?_);refine store_event (t:=4) (p:=36) (v:=?vo_w24) (w1:=(w22.setCell ⟨go21,(x6_3:Int).toNat,none⟩ (.bool true))) ?hg ?ho ?hn ?hr ?_;(case ho=>rfl);(case hg=>rfl);(case hn=>rfl);(case hr=>first| (go_simp;done)| (go_simp;rfl));intro w24 hw;have hg:w22.grownBy w24 (some go21):=(by rw[hw];exact HP23.2);have hp_:Kd.R Kd.bool 4 w24 w.heap.size (fun _=>True) (.slice (some ⟨go21,0,none⟩) x3_3.length co21) y117:=(by rw[hw,Ny117.o];exact HP23.1);clear HP23;replace HI0:=q_ (IsS149.grown (si_ HI0) hg (IsS149.own_ne HI0.o HO_3.o (by decide)));replace HB:=q_ ((by rw[hw];exact below_set (HB.o) (Nat.le_trans HL.o GB21.o):Below w0.heap.size w0 w24));replace HK:=q_ (KeepBut.trans (kp_ HK) (KeepBut.of_grown hg g) (Kd.R_base2 HO_3.o));replace HO_3:=q_ (hp_);clear hg hw hp_))
       go_roundg k3
       case measure=>have:=HK1.o;have:=HJ9.o;have:=HK3.o;omega
       case rel=>exact⟨(y117),(wrap64 (x6_3+1)),(t116),rs_,H',⟨by have:=HK1.o;have:=HJ9.o;have:=HK3.o;omega⟩,⟨ra_ HO_3.o⟩,⟨si_ HI0⟩,⟨kp_ HK⟩,⟨be1_ HB.o (IsS149.ge HI0.o)⟩⟩
def spec_ClassOf.l0:Nat→ByteArray→List Bool→Int→Option ((List (S163)))
 |0,_,_,_=>none
 |k+1,x0,x3,x4=>if x4<(x0.size:Int)then(if 0≤x4 then(if 0≤(bt x0 x4)then(if(bt x0 x4)<(x3.length:Int)then(spec_ClassOf.l0 k x0 (x3.set ((bt x0 x4):Int).toNat true) (wrap64 (x4+1)))else(none))else(none))else(none))else((spec_l1Class.f k x3).bind fun t105=>(some t105))
def spec_ClassOf.f(k:Nat)(a0:ByteArray):Option ((List (S163))):=if 256≤281474976710656 then(spec_ClassOf.l0 k a0 (List.replicate 256 false) 0)else(none)
theorem spec_ClassOf.calls(k:Nat)(a0:ByteArray)(r:List (S163))(w:World)(h:spec_ClassOf.f k a0=some r):
  Calls Try.prog 141 #[.string a0] w fun e w'=>∃v0_:Value,e= .returned (v0_)∧Kd.R k163 163 w' w.heap.size (fun _=>True) v0_ r∧Below w.heap.size w w':=by
 have HB:=q_ (Below.refl w.heap.size w);have H:(if 256≤281474976710656 then(spec_ClassOf.l0 k a0 (List.replicate 256 false) 0)else(none))=some r:=h;clear h;obtain⟨c2,H⟩:=ip_ H;have c2b0:=eq_true c2;have c2b1:=dt_ c2;clear c2;generalize hy101:(List.replicate 256 false:List Bool)=y101 at H;have Ny101:=q_ hy101.symm;clear hy101;have H':=q_ H;clear H;go_enter Try.func141,Try.ntmps141
 go_wp2_with(((with_reducible refine gate_dst (N:=5) rfl ?_);refine Kd.R_make Kd.bool _ 4 rfl (N:=5) rfl 119 _ _ rfl 256 rfl rfl Try.underlying119 (.bool false) 1 info4 rfl (by decide) (by omega) false (ok:=fun _=>True) (okp:=fun _=>True) rfl (fun _ hk=>hk) trivial (by omega) (by omega) (Below.refl _ _) (Nat.le_refl _) ?_;intro v102 w3 ho4 hb hg_ hnew_;clear hg_ hnew_;((simp only[Int.reduceToNat]at ho4;rw[←Ny101.o]at ho4));have HO103:=q_ (Kd.R_lower ho4 (below_size (be_ HB.o)));replace HB:=sb_ HB hb;clear hb ho4))
 go_loopg [4] k (fun kq v4 w'=>∃(x3_1:List Bool) (x4_1:Int),v4= .int .i64 x4_1∧J0 (spec_ClassOf.l0 kq a0 x3_1 x4_1=some r)∧J0 (kq≤k)∧J0 (Kd.R Kd.bool 4 w' w.heap.size (fun _=>True) v102 x3_1)∧J0 (Below w.heap.size w w'))
 case atStart=>exact⟨(y101),(0),rs_,H',⟨Nat.le_refl _⟩,⟨ra_ HO103.o⟩,⟨be_ HB.o⟩⟩
 case round=>
  clear H';clear c2b0 c2b1;obtain⟨x3_1,x4_1,rfl,HA,HK1,HO_3,HB⟩:=hrel;cases gk with
  |zero=>exact absurd HA.o (by simp[spec_ClassOf.l0])
  | succ k1=>
   have H:=HA.o;clear HA;simp only[spec_ClassOf.l0]at H;by_cases c5:x4_1<(a0.size:Int);rotate_left
   ·rw[if_neg c5]at H;have c5b0:=df_ c5;clear c5;obtain⟨t105,A13,H⟩:=ob_ H;obtain rfl:=Option.some.inj H;obtain⟨Ao14,co14,eo14⟩:=Kd.R_slice HO_3.o;subst eo14
    go_wp2_with(((with_reducible refine gate_callee (f:=148) rfl ?_);refine gl_ (some 18) rfl rfl Try.func148 #[.slice Ao14 x3_1.length co14] ?_;(with_reducible refine(spec_l1Class.calls k1 _ _ x3_1 t105 _ ?side1 ?side2 A13.o).mono ?_);(case side1=>exact ca_ (Kd.R_reads' HO_3.o).2.2);(case side2=>exact(Kd.R_reads' HO_3.o).2.1);rintro e w15 ⟨v106,rfl,ho0,hb⟩;refine⟨_,rfl,?_⟩;have HO107:=q_ (Kd.R_lower ho0 (below_size (be_ HB.o)));replace HO_3:=bR_ HO_3 hb;replace HB:=sb_ HB hb;clear hb ho0))
    go_ret
    exact⟨_,rt_,ra_ HO107.o,be_ HB.o⟩
   rw[if_pos c5]at H;have c5b0:=dt_ c5;clear c5;obtain⟨c6,H⟩:=ip_ H;have c6b0:=dt_ c6;clear c6;obtain⟨c8,H⟩:=ip_ H;have c8b0:=dt_ c8;clear c8;obtain⟨c9,H⟩:=ip_ H;have c9b0:=dt_ c9;clear c9;generalize hy104:(x3_1.set ((bt a0 x4_1):Int).toNat true:List Bool)=y104 at H;have Ny104:=q_ hy104.symm;clear hy104;have H':=q_ H;clear H;have p7:0≤(x4_1:Int):=ot_ as_;have q7:x4_1<(a0.size:Int):=ot_ as_;have hx7:=bt_at a0 x4_1;replace p7:=eq_true p7;replace q7:=eq_true q7;have p10:0≤((bt a0 x4_1):Int):=ot_ as_;have q10:((bt a0 x4_1):Int)<((x3_1.length:Int):Int):=ot_ as_;obtain⟨go10,co10,eo10,gb10,gl10,cl10,HG10⟩:=Kd.R_form HO_3.o (by omega);(cases eo10);have GB10:=q_ gb10;have GG10:=q_ HG10;clear gb10 gl10 HG10;obtain⟨hx10_0,hf10_0⟩:=Kd.R_celln false HO_3.o ((bt a0 x4_1):Int) p10 q10;replace p10:=eq_true p10;replace q10:=eq_true q10;have HP11:=Kd.R_putg HO_3.o ((bt a0 x4_1):Int) true
   go_wp2_with(((with_reducible refine gate_store (t:=4) (p:=16) rfl ?_);refine store_event (t:=4) (p:=16) (v:=?vo_w12) (w1:=(wr.setCell ⟨go10,((bt a0 x4_1):Int).toNat,none⟩ (.bool true))) ?hg ?ho ?hn ?hr ?_;(case ho=>rfl);(case hg=>rfl);(case hn=>rfl);(case hr=>first| (go_simp;done)| (go_simp;rfl));intro w12 hw;have hg:wr.grownBy w12 (some go10):=(by rw[hw];exact HP11.2);have hp_:Kd.R Kd.bool 4 w12 w.heap.size (fun _=>True) (.slice (some ⟨go10,0,none⟩) x3_1.length co10) y104:=(by rw[hw,Ny104.o];exact HP11.1);clear HP11;replace HO_3:=q_ (hp_);replace HB:=q_ ((by rw[hw];exact below_set (HB.o) GB10.out:Below w.heap.size w w12));clear hg hw hp_))
   go_roundg k1
   case measure=>have:=HK1.o;omega
   case rel=>exact⟨(y104),(wrap64 (x4_1+1)),rs_,H',⟨by have:=HK1.o;omega⟩,⟨ra_ HO_3.o⟩,⟨be_ HB.o⟩⟩
end Go.Proofs.Ytlecpdpdcocibaa.P
