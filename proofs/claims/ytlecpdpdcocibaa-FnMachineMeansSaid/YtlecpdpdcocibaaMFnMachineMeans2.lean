/- The law FnMachineMeans holds for every call: part 3 of 6 of the proof (walks of functions, and what they answer). Conditions: none beyond what the given row says. -/
import Derived.Test.YtlecpdpdcocibaaMFnMachineMeans0
import Derived.Test.YtlecpdpdcocibaaMFnMachineMeans1
import Derived.Shelf.Abstract
import Derived.Lib.Hide
import Derived.Lib.SliceRun
set_option maxHeartbeats 16000000
set_option maxRecDepth 100000
namespace Go.Proofs.Ytlecpdpdcocibaa.P
open Go.RowKit Go.Proofs.YtlecpdpdcocibaaW.PrintWords Go.Proofs.YtlecpdpdcocibaaW.PrintLast Go.Proofs.YtlecpdpdcocibaaW.PrintMore
attribute [local go_sem] max2_int min2_int max_two min_two max_three min_three max_four min_four
set_option linter.unusedVariables false
set_option linter.unusedSimpArgs false
mutual
def spec_BuildDfa.j0:Nat→Int→Bool→Int→List (S116)→List (S138)→Option (List Int × (List (List Int)) × List Int × Bool)
 |0,_,_,_,_,_=>none
 |k+1,x1,x30,x102000,x102001,x102002=>if x30=true then(some (([]:List Int),([]:List (List Int)),([]:List Int),false))else(spec_BuildDfa.l0 k x1 (([]:List (List (S163)))) 0 x102000 x102001 x102002)
def spec_BuildDfa.l0:Nat→Int→List (List (S163))→Int→Int→List (S116)→List (S138)→Option (List Int × (List (List Int)) × List Int × Bool)
 |0,_,_,_,_,_,_=>none
 |k+1,x1,x7,x8,x102000,x102001,x102002=>if x8<(x102001.length:Int)then(if 0≤x8 then(if(((rd_T116 x102001 x8).f2).length:Int)>0 then(if x7.length<5864062014805 then(spec_BuildDfa.l0 k x1 (x7++ [(rd_T116 x102001 x8).f2]) (wrap64 (x8+1)) x102000 x102001 x102002)else(none))else(spec_BuildDfa.l0 k x1 x7 (wrap64 (x8+1)) x102000 x102001 x102002))else(none))else((spec_Blocks.f k x7).bind fun bt114=>(if(bt114.1.length:Int)=0 then(some (([]:List Int),([]:List (List Int)),([]:List Int),false))else(if 0≤bt114.2 then(if(bt114.2:Int).toNat≤281474976710656 then(spec_BuildDfa.l1 k x1 bt114.1 bt114.2 (List.replicate (bt114.2:Int).toNat 0) 255 x102000 x102001 x102002)else(none))else(none))))
def spec_BuildDfa.l1:Nat→Int→List Int→Int→List Int→Int→Int→List (S116)→List (S138)→Option (List Int × (List (List Int)) × List Int × Bool)
 |0,_,_,_,_,_,_,_,_=>none
 |k+1,x1,x9,x10,x11,x12,x102000,x102001,x102002=>if x12≥0 then(if 0≤x12 then(if x12<(x9.length:Int)then(if 0≤(rd x9 x12)then(if(rd x9 x12)<(x11.length:Int)then(spec_BuildDfa.l1 k x1 x9 x10 (x11.set ((rd x9 x12):Int).toNat ((x12) % 256)) (wrap64 (x12-1)) x102000 x102001 x102002)else(none))else(none))else(none))else(none))else(if 0≤x102000 then(if(x102000:Int).toNat≤281474976710656 then((some (List.replicate (x102000:Int).toNat false:List Bool)).bind fun y123=>(if 0<(y123.length:Int)then((spec_l6Close.f k x102000 x102001 x102002 (y123.set (0:Int).toNat true)).bind fun t127=>(spec_BuildDfa.l2 k x1 x10 x11 (([t127]:List (List Bool))) 0 x102000 x102001 x102002 x9 ([]:List (List Int)) ([]:List Int)))else(none)))else(none))else(none))
def spec_BuildDfa.l2:Nat→Int→Int→List Int→List (List Bool)→Int→Int→List (S116)→List (S138)→List Int→List (List Int)→List Int→Option (List Int × (List (List Int)) × List Int × Bool)
 |0,_,_,_,_,_,_,_,_,_,_,_=>none
 |k+1,x1,x10,x11,x14,x16,x102000,x102001,x102002,x134000,x134001,x134002=>if x16<(x14.length:Int)then(spec_BuildDfa.l3 k x1 x10 x11 x14 x16 (([]:List Int)) 0 x102000 x102001 x102002 x134000 x134001 x134002)else(some (x134000,x134001,x134002,true))
def spec_BuildDfa.l3:Nat→Int→Int→List Int→List (List Bool)→Int→List Int→Int→Int→List (S116)→List (S138)→List Int→List (List Int)→List Int→Option (List Int × (List (List Int)) × List Int × Bool)
 |0,_,_,_,_,_,_,_,_,_,_,_,_,_=>none
 |k+1,x1,x10,x11,x14,x16,x17,x18,x102000,x102001,x102002,x134000,x134001,x134002=>if x18<x10 then(if 0≤x16 then(if x16<(x14.length:Int)then(if 0≤x18 then(if x18<(x11.length:Int)then((spec_l6Step.f k x102000 x102001 x102002 (rd_L11 x14 x16) (rd x11 x18)).bind fun t147=>(spec_BuildDfa.l4 k x1 x10 x11 x14 x16 x17 x18 t147 (-1) 0 x102000 x102001 x102002 x134000 x134001 x134002))else(none))else(none))else(none))else(none))else(if x134001.length<5864062014805 then(if 0≤x16 then(if x16<(x14.length:Int)then((spec_l7Accept.f k x102000 x102001 x102002 (rd_L11 x14 x16)).bind fun t141=>(if x134002.length<17592186044416 then(spec_BuildDfa.l2 k x1 x10 x11 x14 (wrap64 (x16+1)) x102000 x102001 x102002 x134000 (x134001++ [x17]) (x134002++ [t141]))else(none)))else(none))else(none))else(none))
def spec_BuildDfa.l4:Nat→Int→Int→List Int→List (List Bool)→Int→List Int→Int→List Bool→Int→Int→Int→List (S116)→List (S138)→List Int→List (List Int)→List Int→Option (List Int × (List (List Int)) × List Int × Bool)
 |0,_,_,_,_,_,_,_,_,_,_,_,_,_,_,_,_=>none
 |k+1,x1,x10,x11,x14,x16,x17,x18,x19,x20,x21,x102000,x102001,x102002,x134000,x134001,x134002=>if x21<(x14.length:Int)then(spec_BuildDfa.j6 k x1 x10 x11 x14 x16 x17 x18 x19 x20 x21 (decide (x20<0)) x102000 x102001 x102002 x134000 x134001 x134002)else(spec_BuildDfa.j6 k x1 x10 x11 x14 x16 x17 x18 x19 x20 x21 false x102000 x102001 x102002 x134000 x134001 x134002)
def spec_BuildDfa.j6:Nat→Int→Int→List Int→List (List Bool)→Int→List Int→Int→List Bool→Int→Int→Bool→Int→List (S116)→List (S138)→List Int→List (List Int)→List Int→Option (List Int × (List (List Int)) × List Int × Bool)
 |0,_,_,_,_,_,_,_,_,_,_,_,_,_,_,_,_,_=>none
 |k+1,x1,x10,x11,x14,x16,x17,x18,x19,x20,x21,x120,x102000,x102001,x102002,x134000,x134001,x134002=>if x120=true then(if 0≤x21 then(if x21<(x14.length:Int)then((spec_l7SameMarks.f k (rd_L11 x14 x21) x19).bind fun t151=>(if t151=true then(spec_BuildDfa.l4 k x1 x10 x11 x14 x16 x17 x18 x19 x21 (wrap64 (x21+1)) x102000 x102001 x102002 x134000 x134001 x134002)else(spec_BuildDfa.l4 k x1 x10 x11 x14 x16 x17 x18 x19 x20 (wrap64 (x21+1)) x102000 x102001 x102002 x134000 x134001 x134002)))else(none))else(none))else(if x20<0 then(if x14.length<5864062014805 then((some (x14++ [x19]:List (List Bool))).bind fun y152=>(if(y152.length:Int)>x1 then(some (([]:List Int),([]:List (List Int)),([]:List Int),false))else(if x17.length<17592186044416 then(spec_BuildDfa.l3 k x1 x10 x11 y152 x16 (x17++ [(x14.length:Int)]) (wrap64 (x18+1)) x102000 x102001 x102002 x134000 x134001 x134002)else(none))))else(none))else(if(x14.length:Int)>x1 then(some (([]:List Int),([]:List (List Int)),([]:List Int),false))else(if x17.length<17592186044416 then(spec_BuildDfa.l3 k x1 x10 x11 x14 x16 (x17++ [x20]) (wrap64 (x18+1)) x102000 x102001 x102002 x134000 x134001 x134002)else(none))))
end
def spec_BuildDfa.f(k:Nat)(a0_0:Int)(l0_1:List (S116))(l0_2:List (S138))(a1:Int):Option (List Int × (List (List Int)) × List Int × Bool):=(spec_NfaOk.f k a0_0 l0_1 l0_2).bind fun t104=>(if t104=true then((spec_l1In.f a1 1 1000).bind fun t105=>(spec_BuildDfa.j0 k a1 (!t105) a0_0 l0_1 l0_2))else(spec_BuildDfa.j0 k a1 true a0_0 l0_1 l0_2))
def spec_BuildDfa.T29:Bool × List (List Nat × List Nat):=(true,[([],[]),([],[]),([],[]),([1,2],[1,2]),([3],[3]),([],[]),([],[]),([5,6],[5,6]),([7],[7]),([0,4,8],[0,4,8]),([9,9,0,1,2,3,4,5,6,7,8,9],[9])])
def spec_BuildDfa.B29:List Nat:=[0,0,0,6,14,0,0,96,224,511,1023]
theorem spec_BuildDfa.tab29:rtab .any (opsOf Try.f31 29)=spec_BuildDfa.T29:=by kernel_rfl
theorem spec_BuildDfa.bits29:waitsOk spec_BuildDfa.T29.2 spec_BuildDfa.B29=true:=by kernel_rfl
def spec_BuildDfa.T43:Bool × List (List Nat × List Nat):=(true,[([],[]),([0],[0]),([],[]),([],[]),([],[]),([3,4],[3,4]),([5],[5]),([2,6],[2,6]),([7],[7]),([1,8,7],[1,8]),([0,1,2,3,4,5,6,7,8,9],[]),([10,9,9,0,1,2,3,4,5,6,7,8,9],[9,10])])
def spec_BuildDfa.B43:List Nat:=[0,1,0,0,0,24,56,124,252,511,1023,2047]
theorem spec_BuildDfa.tab43:rtab .any (opsOf Try.f31 43)=spec_BuildDfa.T43:=by kernel_rfl
theorem spec_BuildDfa.bits43:waitsOk spec_BuildDfa.T43.2 spec_BuildDfa.B43=true:=by kernel_rfl
theorem spec_BuildDfa.calls(k:Nat)(a0_0:Int)(P0_1_:Nat→Prop)(A0_1:Option Addr)(c0_1:Nat)(l0_1:List (S116))(A0_2:Option Addr)(c0_2:Nat)(l0_2:List (S138))(a1:Int)(r1:List Int)(r2:List (List Int))(r3:List Int)(r4:Bool)(w:World)(hs0_1:Kd.V k116 116 w w.heap.size (fun k_=>P0_1_ k_) (.slice A0_1 l0_1.length c0_1) l0_1)(hr0_2:Kd.C k138 w A0_2 l0_2.length l0_2)(hc0_2:l0_2.length≤c0_2)(h:spec_BuildDfa.f k a0_0 l0_1 l0_2 a1=some (r1,r2,r3,r4)):
  Calls Try.prog 31 #[.agg #[.int .i64 a0_0, .slice A0_1 l0_1.length c0_1, .slice A0_2 l0_2.length c0_2], .int .i64 a1] w fun e w'=>∃v0_ v1_ v2_:Value,e= .returned (.tuple #[.agg #[v0_,v1_,v2_], .bool r4])∧Kd.R (Kd.int .i64) 2 w' w.heap.size (fun k_=>(w.heap.size≤k_)∧some k_≠(v2_:Value).ownBlock) v0_ r1∧Kd.N (Kd.slice 2 (Kd.int .i64)) 22 w' w.heap.size (fun k_=>(P0_1_ k_∨w.heap.size≤k_)∧some k_≠(v0_:Value).ownBlock∧some k_≠(v2_:Value).ownBlock) v1_ r2∧Kd.R (Kd.int .i64) 2 w' w.heap.size (fun k_=>(w.heap.size≤k_)∧some k_≠(v0_:Value).ownBlock) v2_ r3∧Below w.heap.size w w':=by
 have hu60:=Try.underlying60;have hu32:=Try.underlying32;have O0_1:=q_ (show Kd.V k116 116 w w.heap.size (fun k_=>(P0_1_ k_∨w.heap.size≤k_)) (.slice A0_1 l0_1.length c0_1) l0_1 from Kd.V_mono hs0_1 (fun k_ hk=> .inl hk));have HR0_2:=q_ hr0_2;have HC0_2:=q_ hc0_2;clear hr0_2 hc0_2;have HB:=q_ (Below.refl w.heap.size w);have H:((spec_NfaOk.f k a0_0 l0_1 l0_2).bind fun t104=>(if t104=true then((spec_l1In.f a1 1 1000).bind fun t105=>(spec_BuildDfa.j0 k a1 (!t105) a0_0 l0_1 l0_2))else(spec_BuildDfa.j0 k a1 true a0_0 l0_1 l0_2)))=some (r1,r2,r3,r4):=h;clear h;have HC3:=q_ H;clear H;go_enter Try.func31,Try.ntmps31;go_upto_region 2 with(first| ((with_reducible refine gate_dst (N:=2) rfl ?_);refine bx_ 2 #[.int .i64 a0_0, .slice A0_1 l0_1.length c0_1, .slice A0_2 l0_2.length c0_2] 60 ?_;intro gb101 hg w4 hbox hb;have Q101:=q_ (hbox);have G101:=ge_ hg HB;replace O0_1:=q_ (Kd.V_below (Kd.V_elderB (va_ O0_1.o) gb101 (Nat.le_of_eq hg.symm)) hb);replace HB:=sb_ HB hb;clear hb hbox hg)| ((with_reducible refine gate_dst (N:=4) rfl ?_);refine bx_ 4 #[.slice none 0 0, .slice none 0 0, .slice none 0 0] 32 ?_;intro gb102 hg w5 hbox hb;have Q102:=q_ (hbox);have G102:=ge1_ hg HB G101;have N101_102:=nl_ hg Q101;have N102_101:=ng_ hg Q101;replace O0_1:=q_ (Kd.V_below (Kd.V_elderB (va_ O0_1.o) gb102 (Nat.le_of_eq hg.symm)) hb);replace Q101:=lb_ Q101 hb;replace HB:=sb1_ HB G101 hb;clear hb hbox hg)| ((with_reducible refine gate_dst (N:=6) rfl ?_);refine bx_ 6 #[.slice none 0 0, .slice none 0 0, .slice none 0 0] 32 ?_;intro gb103 hg w6 hbox hb;have Q103:=q_ (hbox);have G103:=ge2_ hg HB G101 G102;have N101_103:=nl_ hg Q101;have N103_101:=ng_ hg Q101;have N102_103:=nl_ hg Q102;have N103_102:=ng_ hg Q102;replace O0_1:=q_ (Kd.V_below (Kd.V_elderB (va_ O0_1.o) gb103 (Nat.le_of_eq hg.symm)) hb);replace Q101:=lb_ Q101 hb;replace Q102:=lb_ Q102 hb;replace HB:=sb2_ HB G101 G102 hb;clear hb hbox hg;have hnb7:=N103_101.o;have hnc7:=N101_103.o;have hnb8:=N103_102.o;have hnc8:=N102_103.o;obtain⟨z9_0,z9_1,z9_2,y9_0,y9_1,y9_2⟩:=d3_ Q103))
 go_cut [30] (fun v30 wc=>∃(kq:Nat) (x30_2:Bool),v30= .bool x30_2∧J0 (spec_BuildDfa.j0 kq a1 x30_2 a0_0 l0_1 l0_2=some (r1,r2,r3,r4))∧J0 (kq≤k)∧J0 (Kd.V k116 116 wc w.heap.size (fun k_=>(P0_1_ k_∨w.heap.size≤k_)∧k_≠gb101∧k_≠gb102∧k_≠gb103) (.slice A0_1 l0_1.length c0_1) l0_1)∧J0 (wc.heap[gb101]? =some (.cells #[.int .i64 a0_0,(.slice A0_1 l0_1.length c0_1),(.slice A0_2 l0_2.length c0_2)] 60 (0,0)))∧J0 (wc.heap[gb102]? =some (.cells #[(.slice none 0 0),(.slice none 0 0),(.slice none 0 0)] 32 (0,0)))∧J0 (wc.heap[gb103]? =some (.cells #[(.slice none 0 0),(.slice none 0 0),(.slice none 0 0)] 32 (0,0)))∧J0 (Below w.heap.size w wc))
 case first=>
  have H:=HC3.o;clear HC3;obtain⟨t104,A10,H⟩:=ob_ H;have hnb13:=N101_102.o;have hnc13:=N102_101.o;have hnb14:=N101_103.o;have hnc14:=N103_101.o;obtain⟨z15_0,z15_1,z15_2,y15_0,y15_1,y15_2⟩:=d3_ Q101;by_cases c11:t104=true;rotate_left
  ·replace c11:=Bool.eq_false_iff.mpr c11;subst c11;rw[iN nft_]at H;have H':=q_ H;clear H
   go_wp2_with(((with_reducible refine gate_callee (f:=75) rfl ?_);refine gl_ (some 24) rfl rfl Try.func75 #[.agg #[.int .i64 a0_0, .slice A0_1 l0_1.length c0_1, .slice A0_2 l0_2.length c0_2]] ?_;(with_reducible refine(spec_NfaOk.calls k a0_0 _ _ l0_1 _ _ l0_2 false _ ?side1 ?side2 ?side3 ?side4 A10.o).mono ?_);(case side1=>refine(Kd.V_reads' (e:=116) (base:=w.heap.size) (ok:=fun k_=>((((P0_1_ k_∨w.heap.size≤k_)∧k_≠gb101)∧k_≠gb102)∧k_≠gb103)) (n:=l0_1.length) (c:=c0_1) ?_).2.2;exact(Kd.V_mono (rfV_ (Kd.V_mono O0_1.o (fun k_ hk=>(⟨hk,hk.2⟩:_∧k_≠gb103)))) (fun _ h_=>h_.1)));(case side2=>exact(Kd.V_reads' O0_1.o).2.1);(case side3=>exact Kd.C_below HR0_2.o (be3_ HB.o G101.o G102.o G103.o));(case side4=>exact HC0_2.o);rintro e w20 ⟨rfl,hb⟩;refine⟨_,rfl,?_⟩;replace O0_1:=q_ (Kd.V_below (Kd.V_mono (rfV_ (Kd.V_mono O0_1.o (fun k_ hk=>(⟨hk,hk.2⟩:_∧k_≠gb103)))) (fun _ h_=>h_.1)) hb);replace Q101:=q_ (blk_below (g:=gb101) (o:= .cells #[.int .i64 a0_0, .slice A0_1 l0_1.length c0_1, .slice A0_2 l0_2.length c0_2] 60 (0,0)) (bw_ Q101 N101_103) hb);replace Q102:=q_ (blk_below (g:=gb102) (o:= .cells #[.slice none 0 0, .slice none 0 0, .slice none 0 0] 32 (0,0)) (bw_ Q102 N102_103) hb);replace Q103:=q_ (blk_below (g:=gb103) (o:= .cells #[.slice none 0 0, .slice none 0 0, .slice none 0 0] 32 (0,0)) (bp_ Q103) hb);replace HB:=sb3_ HB G101 G102 G103 hb;clear hb))
   go_meet
   case rel=>exact⟨_,(true),rs_,H',⟨by omega⟩,⟨mV_ O0_1 (fun _ hk=>⟨hk.1.1.1,⟨hk.1.1.2,⟨hk.1.2,hk.2⟩⟩⟩)⟩,⟨bk_ Q101.o⟩,⟨bk_ Q102.o⟩,⟨bk_ Q103.o⟩,⟨be3_ HB.o G101.o G102.o G103.o⟩⟩
  subst c11;rw[iP rfl]at H;obtain⟨t105,A12,H⟩:=ob_ H;have H':=q_ H;clear H
  go_wp2_with(first| ((with_reducible refine gate_callee (f:=75) rfl ?_);refine gl_ (some 24) rfl rfl Try.func75 #[.agg #[.int .i64 a0_0, .slice A0_1 l0_1.length c0_1, .slice A0_2 l0_2.length c0_2]] ?_;(with_reducible refine(spec_NfaOk.calls k a0_0 _ _ l0_1 _ _ l0_2 true _ ?side1 ?side2 ?side3 ?side4 A10.o).mono ?_);(case side1=>refine(Kd.V_reads' (e:=116) (base:=w.heap.size) (ok:=fun k_=>((((P0_1_ k_∨w.heap.size≤k_)∧k_≠gb101)∧k_≠gb102)∧k_≠gb103)) (n:=l0_1.length) (c:=c0_1) ?_).2.2;exact(Kd.V_mono (rfV_ (Kd.V_mono O0_1.o (fun k_ hk=>(⟨hk,hk.2⟩:_∧k_≠gb103)))) (fun _ h_=>h_.1)));(case side2=>exact(Kd.V_reads' O0_1.o).2.1);(case side3=>exact Kd.C_below HR0_2.o (be3_ HB.o G101.o G102.o G103.o));(case side4=>exact HC0_2.o);rintro e w16 ⟨rfl,hb⟩;refine⟨_,rfl,?_⟩;replace O0_1:=q_ (Kd.V_below (Kd.V_mono (rfV_ (Kd.V_mono O0_1.o (fun k_ hk=>(⟨hk,hk.2⟩:_∧k_≠gb103)))) (fun _ h_=>h_.1)) hb);replace Q101:=q_ (blk_below (g:=gb101) (o:= .cells #[.int .i64 a0_0, .slice A0_1 l0_1.length c0_1, .slice A0_2 l0_2.length c0_2] 60 (0,0)) (bw_ Q101 N101_103) hb);replace Q102:=q_ (blk_below (g:=gb102) (o:= .cells #[.slice none 0 0, .slice none 0 0, .slice none 0 0] 32 (0,0)) (bw_ Q102 N102_103) hb);replace Q103:=q_ (blk_below (g:=gb103) (o:= .cells #[.slice none 0 0, .slice none 0 0, .slice none 0 0] 32 (0,0)) (bp_ Q103) hb);replace HB:=sb3_ HB G101 G102 G103 hb;clear hb)| (go_at_call 60;(with_reducible refine(spec_l1In.calls a1 1 1000 t105 _ A12.o).mono ?_);rintro e w' ⟨rfl,⟨nd,rfl⟩⟩))
  go_meet
  case rel=>exact⟨_,(!t105),rs_,H',⟨by omega⟩,⟨by(with_reducible repeat(apply Kd.V_drewN));exact Kd.V_mono O0_1.o (fun _ hk=>⟨hk.1.1.1,⟨hk.1.1.2,⟨hk.1.2,hk.2⟩⟩⟩)⟩,⟨bk_ Q101.o⟩,⟨bk_ Q102.o⟩,⟨bk_ Q103.o⟩,⟨be3_ HB.o G101.o G102.o G103.o⟩⟩
 case rest =>
  clear HC3 z9_0 z9_1 z9_2 y9_0 y9_1 y9_2;obtain⟨kq,x30_2,rfl,HA,HJ2,O_102001,Q101,Q102,Q103,HB⟩:=hcut;cases kq with
  |zero=>exact absurd HA.o (by simp[spec_BuildDfa.j0])
  | succ kj2 =>
   have H:=HA.o;clear HA;simp only[spec_BuildDfa.j0]at H;by_cases c21:x30_2=true
   ·subst c21;rw[iP rfl]at H;simp only[Option.some.injEq,Prod.mk.injEq]at H;obtain⟨rfl,rfl,rfl,rfl⟩:=H;have hnb22:=N103_101.o;have hnc22:=N101_103.o;have hnb23:=N103_102.o;have hnc23:=N102_103.o;obtain⟨z24_0,z24_1,z24_2,y24_0,y24_1,y24_2⟩:=d3_ Q103;have hnb25:=N102_101.o;have hnc25:=N101_102.o;obtain⟨z26_0,z26_1,z26_2,y26_0,y26_1,y26_2⟩:=d3_ Q102;go_wp2
    refine bodyPost_ret (results_ct rfl _ _ gb102 32 #[.slice none 0 0, .slice none 0 0, .slice none 0 0] (0,0) _ rfl (bp_ Q102) Try.underlying32 rfl (by kernel_rfl)) rfl ?_;exact⟨_,_,_,rt_,by exact Kd.R_nil _ _ _ _ _,by exact Kd.N_nil _ _ _ _ _,by exact Kd.R_nil _ _ _ _ _,be3_ HB.o G101.o G102.o G103.o⟩
   replace c21:=Bool.eq_false_iff.mpr c21;subst c21;rw[iN nft_]at H;generalize hy106:([]:List (List (S163)))=y106 at H;have Ny106:=q_ hy106.symm;clear hy106;have H':=q_ H;clear H
   go_wp2_with(((with_reducible refine gate_dst (N:=32) rfl ?_);refine Kd.N_lit (Kd.slice 163 k163) _ 114 ?hg (N':=32) ?hd (xs:=([]:List (List (S163)))) (inner:=[]) (ok:=(fun k_=>(P0_1_ k_∨w.heap.size≤k_)∧k_≠gb101∧k_≠gb102∧k_≠gb103)) (okp:=(fun k_=>(P0_1_ k_∨w.heap.size≤k_)∧k_≠gb101∧k_≠gb102∧k_≠gb103)) ?hr ?hp (fun _ hk=>hk) ((show ∀k_,wc.heap.size≤k_→(fun k_=>(P0_1_ k_∨w.heap.size≤k_)∧k_≠gb101∧k_≠gb102∧k_≠gb103) k_ from fun k_ hk=>⟨(.inr (Nat.le_trans (below_size (be3_ HB.o G101.o G102.o G103.o)) hk)),fb_ Q101 hk,fb_ Q102 hk,fb_ Q103 hk⟩) _ (Nat.le_refl _)) (Below.refl _ _) (Nat.le_refl _) (by simp) ?_;(case hd=>rfl);(case hg=>rfl);(case hr=>first| (go_simp;done)| (go_simp;rfl));(case hp=>exact(Reps.none _ _));intro v107 w27 ho28 hb hg_ hnew_;clear hg_ hnew_;(rw[←Ny106.o]at ho28);have O108:=q_ (Kd.N_lower ho28 (below_size (be3_ HB.o G101.o G102.o G103.o)));replace O_102001:=eV_ O_102001 (Kd.N_base ho28) hb;replace Q101:=lb_ Q101 hb;replace Q102:=lb_ Q102 hb;replace Q103:=lb_ Q103 hb;replace HB:=sb3_ HB G101 G102 G103 hb;clear hb ho28))
   go_loopg [7,8] kj2 (fun kq v7 v8 w'=>∃(x7_2:List (List (S163))) (x8_2:Int),v8= .int .i64 x8_2∧J0 (spec_BuildDfa.l0 kq a1 x7_2 x8_2 a0_0 l0_1 l0_2=some (r1,r2,r3,r4))∧J0 (kq≤kj2)∧J0 (Kd.N (Kd.slice 163 k163) 114 w' w.heap.size (fun k_=>(P0_1_ k_∨w.heap.size≤k_)∧k_≠gb101∧k_≠gb102∧k_≠gb103) v7 x7_2)∧J0 (Kd.V k116 116 w' w.heap.size (fun k_=>(P0_1_ k_∨w.heap.size≤k_)∧some k_≠(v7:Value).ownBlock∧k_≠gb101∧k_≠gb102∧k_≠gb103) (.slice A0_1 l0_1.length c0_1) l0_1)∧J0 (w'.heap[gb101]? =some (.cells #[.int .i64 a0_0,(.slice A0_1 l0_1.length c0_1),(.slice A0_2 l0_2.length c0_2)] 60 (0,0)))∧J0 (w'.heap[gb102]? =some (.cells #[(.slice none 0 0),(.slice none 0 0),(.slice none 0 0)] 32 (0,0)))∧J0 (w'.heap[gb103]? =some (.cells #[(.slice none 0 0),(.slice none 0 0),(.slice none 0 0)] 32 (0,0)))∧J0 (Below w.heap.size w w'))
   case atStart=>exact⟨(y106),(0),rs_,H',⟨Nat.le_refl _⟩,⟨na_ O108.o⟩,⟨mV_ O_102001 (fun _ hk=>⟨hk.1.1,⟨hk.2,⟨hk.1.2.1,⟨hk.1.2.2.1,hk.1.2.2.2⟩⟩⟩⟩)⟩,⟨bk_ Q101.o⟩,⟨bk_ Q102.o⟩,⟨bk_ Q103.o⟩,⟨be3_ HB.o G101.o G102.o G103.o⟩⟩
   case round =>
    clear H';obtain⟨x7_2,x8_2,rfl,HA,HK2,O_7,O_102001,Q101,Q102,Q103,HB⟩:=hrel;cases gk with
    |zero=>exact absurd HA.o (by simp[spec_BuildDfa.l0])
    | succ k2 =>
     have H:=HA.o;clear HA;simp only[spec_BuildDfa.l0]at H;by_cases c29:x8_2<(l0_1.length:Int)
     ·rw[iP c29]at H;have d29:=dt_ c29;clear c29;obtain⟨d30,H⟩:=iq_ H;have hnb33:=N101_102.o;have hnc33:=N102_101.o;have hnb34:=N101_103.o;have hnc34:=N103_101.o;obtain⟨z35_0,z35_1,z35_2,y35_0,y35_1,y35_2⟩:=d3_ Q101;obtain⟨p109,q109⟩:=pq_ x8_2 (l0_1.length:Int);obtain⟨ad109,A109_2,c109_2,e109,X109_0,X109_1,X109_2,hl109_2,hi109_2⟩:=at_T116 (Kd.V_reads' O_102001.o).2.2 x8_2 p109 q109;cases e109;obtain⟨ce109,hce109,hMe109,hcc109⟩:=Kd.V_get O_102001.o z116 x8_2 p109 (by exact q109);obtain⟨ua109_2,uc109_2,rfl,ul109_2,ge109_2⟩:=k116_openF hMe109;have hv109_2:=hcc109 2 _ rfl;rw[add_field _ _ 2 (by omega)]at hv109_2;replace hv109_2:=Option.some.inj (hv109_2.symm.trans X109_2)
      injection hv109_2 with hva_ hvn_ hvc_
      rw[hva_]at ge109_2;rw[hvc_]at ul109_2;have HL109_2:=q_ (show Kd.V k163 163 _ w.heap.size _ _ ((rd_T116 l0_1 x8_2).f2)from Kd.V_mk ul109_2 ge109_2);clear hva_ hvn_ hvc_ ge109_2 ul109_2 hcc109 hce109;have HR109_2:=q_ hi109_2;have HC109_2:=q_ hl109_2;obtain⟨p109,q109⟩:=et_ p109 q109;by_cases c31:(((rd_T116 l0_1 x8_2).f2).length:Int)>0;rotate_left
      ·rw[iN c31]at H;have d31:decide (0<(((rd_T116 l0_1 x8_2).f2).length:Int))=false:=df_ c31;have c31b1:decide (0<((rd_T116 l0_1 x8_2).f2).length)=false:=decide_eq_false (by omega);clear c31;have H':=q_ H;clear H;clear hi109_2 hl109_2;go_wp2
       go_roundg k2
       case measure=>have:=HJ2.o;have:=HK2.o;omega
       case rel=>exact⟨(x7_2),(wrap64 (x8_2+1)),rs_,H',⟨by have:=HJ2.o;have:=HK2.o;omega⟩,⟨na_ O_7.o⟩,⟨va_ O_102001.o⟩,⟨bk_ Q101.o⟩,⟨bk_ Q102.o⟩,⟨bk_ Q103.o⟩,⟨be3_ HB.o G101.o G102.o G103.o⟩⟩
      rw[iP c31]at H;have d31:decide (0<(((rd_T116 l0_1 x8_2).f2).length:Int))=true:=dt_ c31;have c31b1:decide (0<((rd_T116 l0_1 x8_2).f2).length)=true:=decide_eq_true (by omega);clear c31;obtain⟨c32,H⟩:=ip_ H;have LMc32:=q_ c32;clear c32;generalize hy111:(x7_2++ [(rd_T116 l0_1 x8_2).f2]:List (List (S163)))=y111 at H;have Ny111:=q_ hy111.symm;clear hy111;have H':=q_ H;clear H;clear hi109_2 hl109_2;obtain⟨p110,q110⟩:=pq_ x8_2 (l0_1.length:Int);obtain⟨ad110,A110_2,c110_2,e110,X110_0,X110_1,X110_2,hl110_2,hi110_2⟩:=at_T116 (Kd.V_reads' O_102001.o).2.2 x8_2 p110 q110;obtain rfl:ad109=ad110:=(by injection e110);obtain⟨ce110,hce110,hMe110,hcc110⟩:=Kd.V_get O_102001.o z116 x8_2 p110 (by exact q110);obtain⟨ua110_2,uc110_2,rfl,ul110_2,ge110_2⟩:=k116_openF hMe110;have hv110_2:=hcc110 2 _ rfl;rw[add_field _ _ 2 (by omega)]at hv110_2;replace hv110_2:=Option.some.inj (hv110_2.symm.trans X110_2);injection hv110_2 with hva_ hvn_ hvc_
      rw[hva_]at ge110_2;rw[hvc_]at ul110_2;have HL110_2:=q_ (show Kd.V k163 163 _ w.heap.size _ _ ((rd_T116 l0_1 x8_2).f2)from Kd.V_mk ul110_2 ge110_2);clear hva_ hvn_ hvc_ ge110_2 ul110_2 hcc110 hce110;have HR110_2:=q_ hi110_2;have HC110_2:=q_ hl110_2;clear hi110_2 hl110_2;obtain⟨p110,q110⟩:=et_ p110 q110;have ea_:=Option.some.inj (X109_2.symm.trans X110_2);injection ea_ with ea_ en_ ec_
      subst ea_;subst ec_;clear en_
      go_wp2_with(((with_reducible refine gate_builtin (b:= .append) (xs:=#[.tmp 48, .tmp 55]) rfl ?_);at_builtin;refine Kd.N_append (Kd.slice 163 k163) (w0:=w) w.heap.size rfl (.tmp 48) (.tmp 55) 113 114 (.slice none 0 0) 24 rfl Try.underlying113 info114 rfl (by decide) (by omega) u7 x7_2 ((rd_T116 l0_1 x8_2).f2) [.slice A109_2 ((rd_T116 l0_1 x8_2).f2).length c109_2] (fun k_=>(P0_1_ k_∨w.heap.size≤k_)∧k_≠gb101∧k_≠gb102∧k_≠gb103) (fun k_=>((fun k_=>(P0_1_ k_∨w.heap.size≤k_)∧k_≠gb101∧k_≠gb102∧k_≠gb103)) k_∧some k_≠(u7:Value).ownBlock) rfl rfl ?aP (fun _ hk=>hk) ?aF ?aO ?aB ?aS ?aL ?_;(case aP=>exact(Kd.FK_slice_mk (Kd.V_reads' (Kd.V_mono (ok':=(fun k_=>((fun k_=>(P0_1_ k_∨w.heap.size≤k_)∧k_≠gb101∧k_≠gb102∧k_≠gb103)) k_∧some k_≠(u7:Value).ownBlock)) (HL110_2.o) (fun k_ hk=>⟨⟨hk.1,⟨hk.2.2.1,⟨hk.2.2.2.1,hk.2.2.2.2⟩⟩⟩,hk.2.1⟩))).2.1 (Kd.V_F (Kd.V_mono (ok':=(fun k_=>((fun k_=>(P0_1_ k_∨w.heap.size≤k_)∧k_≠gb101∧k_≠gb102∧k_≠gb103)) k_∧some k_≠(u7:Value).ownBlock)) (HL110_2.o) (fun k_ hk=>⟨⟨hk.1,⟨hk.2.2.1,⟨hk.2.2.2.1,hk.2.2.2.2⟩⟩⟩,hk.2.1⟩)))));(case aB=>exact(be3_ HB.o G101.o G102.o G103.o));(case aF=>exact(fun k_ hk=>⟨(.inr (Nat.le_trans (below_size (be3_ HB.o G101.o G102.o G103.o)) hk)),fb_ Q101 hk,fb_ Q102 hk,fb_ Q103 hk⟩));(case aO=>exact(na_ O_7.o));(case aS=>exact(below_size (be3_ HB.o G101.o G102.o G103.o)));(case aL=>have:=LMc32.o;omega);intro v112 w36 ho hb hg hat;rw[←Ny111.o]at ho;have O113:=q_ (ho);replace O_102001:=q_ (Kd.V_afterv (ok:=(fun k_=>(P0_1_ k_∨w.heap.size≤k_)∧k_≠gb101∧k_≠gb102∧k_≠gb103)) (mV_ O_102001 (fun _ hk=>⟨⟨hk.1,⟨hk.2.2.1,⟨hk.2.2.2.1,hk.2.2.2.2⟩⟩⟩,hk.2.1⟩)) hg hat);replace Q101:=bg_ Q101 hg (Kd.N_ne O_7.o Q101.o (by decide));replace Q102:=bg_ Q102 hg (Kd.N_ne O_7.o Q102.o (by decide));replace Q103:=bg_ Q103 hg (Kd.N_ne O_7.o Q103.o (by decide));replace HL109_2:=q_ (Kd.V_afterv (ok:=(fun k_=>(P0_1_ k_∨w.heap.size≤k_)∧k_≠gb101∧k_≠gb102∧k_≠gb103)) (mV_ HL109_2 (fun _ hk=>⟨⟨hk.1,⟨hk.2.2.1,⟨hk.2.2.2.1,hk.2.2.2.2⟩⟩⟩,hk.2.1⟩)) hg hat);replace HL110_2:=q_ (Kd.V_afterv (ok:=(fun k_=>(P0_1_ k_∨w.heap.size≤k_)∧k_≠gb101∧k_≠gb102∧k_≠gb103)) (mV_ HL110_2 (fun _ hk=>⟨⟨hk.1,⟨hk.2.2.1,⟨hk.2.2.2.1,hk.2.2.2.2⟩⟩⟩,hk.2.1⟩)) hg hat);replace HB:=q_ (hb);clear O_7 ho hb hg hat))
      go_roundg k2
      case measure=>have:=HJ2.o;have:=HK2.o;omega
      case rel=>exact⟨(y111),(wrap64 (x8_2+1)),rs_,H',⟨by have:=HJ2.o;have:=HK2.o;omega⟩,⟨na_ O113.o⟩,⟨mV_ O_102001 (fun _ hk=>⟨hk.1.1,⟨hk.2,⟨hk.1.2.1,⟨hk.1.2.2.1,hk.1.2.2.2⟩⟩⟩⟩)⟩,⟨bk_ Q101.o⟩,⟨bk_ Q102.o⟩,⟨bk_ Q103.o⟩,⟨be3_ HB.o G101.o G102.o G103.o⟩⟩
     rw[iN c29]at H;have d29:=df_ c29;clear c29;replace H:=Option.bind_eq_some_iff.mp H;obtain⟨⟨t114,t115⟩,A400,H⟩:=H;dsimp only at H;have A40:=q_ A400;clear A400;by_cases c41:(t114.length:Int)=0
     ·rw[iP c41]at H;have d41:((t114.length:Int)==0)=true:=beq_iff_eq.mpr c41;have c41b1:((t114.length:Int) != 0)=false:=bne_eq_false_iff_eq.mpr c41;clear c41;simp only[Option.some.injEq,Prod.mk.injEq]at H;obtain⟨rfl,rfl,rfl,rfl⟩:=H;have hnb42:=N101_102.o;have hnc42:=N102_101.o;have hnb43:=N101_103.o;have hnc43:=N103_101.o;obtain⟨z44_0,z44_1,z44_2,y44_0,y44_1,y44_2⟩:=d3_ Q101;obtain⟨Ao45,co45,eo45⟩:=Kd.N_slice O_7.o;subst eo45
      go_wp2_with(((with_reducible refine gate_callee (f:=76) rfl ?_);refine gl_ (some 59) rfl rfl Try.func76 #[.slice Ao45 x7_2.length co45] ?_;(with_reducible refine(spec_Blocks.calls k2 _ _ x7_2 t114 t115 _ ?side1 ?side2 A40.o).mono ?_);(case side1=>exact ca_ (Kd.N_reads' O_7.o).2.2);(case side2=>exact(Kd.N_reads' O_7.o).2.1);rintro e w46 ⟨v116,rfl,ho0,hb⟩;refine⟨_,rfl,?_⟩;have O117:=q_ (Kd.R_lower (Kd.R_newM (M:=fun k_=>(w.heap.size≤k_)) ho0 (below_size (be3_ HB.o G101.o G102.o G103.o)) (fun k_ h_=>h_)) (below_size (be3_ HB.o G101.o G102.o G103.o)));replace O_7:=eN_ O_7 (Kd.R_base ho0) hb;replace O_102001:=eV_ O_102001 (Kd.R_base ho0) hb;replace Q101:=lb_ Q101 hb;replace Q102:=lb_ Q102 hb;replace Q103:=lb_ Q103 hb;replace HB:=sb3_ HB G101 G102 G103 hb;clear hb ho0;obtain⟨Ao47,co47,eo47⟩:=Kd.R_slice O117.o;subst eo47;have hnb48:=N103_102.o;have hnc48:=N102_103.o;obtain⟨z49_0,z49_1,z49_2,y49_0,y49_1,y49_2⟩:=d3_ Q103;obtain⟨z50_0,z50_1,z50_2,y50_0,y50_1,y50_2⟩:=d3_ Q102))
      refine bodyPost_ret (results_ct rfl _ _ gb102 32 #[.slice none 0 0, .slice none 0 0, .slice none 0 0] (0,0) _ rfl (bp_ Q102) Try.underlying32 rfl (by kernel_rfl)) rfl ?_;exact⟨_,_,_,rt_,by exact Kd.R_nil _ _ _ _ _,by exact Kd.N_nil _ _ _ _ _,by exact Kd.R_nil _ _ _ _ _,be3_ HB.o G101.o G102.o G103.o⟩
     rw[iN c41]at H;have d41:((t114.length:Int)==0)=false:=beq_eq_false_iff_ne.mpr c41;have c41b1:((t114.length:Int) != 0)=true:=bne_iff_ne.mpr c41;have c41b2:¬(t114= []):=fun h_=>c41 (by rw[h_];rfl);obtain⟨c51,H⟩:=ip_ H;have d51:=eq_true c51;have c51b1:=dt_ c51;clear c51;obtain⟨c52,H⟩:=ip_ H;have d52:=eq_true c52;have c52b1:=dt_ c52;clear c52;generalize hy118:(List.replicate (t115:Int).toNat 0:List Int)=y118 at H;have Ny118:=q_ hy118.symm;clear hy118;have H':=q_ H;clear H;have hnb53:=N101_102.o;have hnc53:=N102_101.o;have hnb54:=N101_103.o;have hnc54:=N103_101.o;obtain⟨z55_0,z55_1,z55_2,y55_0,y55_1,y55_2⟩:=d3_ Q101;obtain⟨Ao56,co56,eo56⟩:=Kd.N_slice O_7.o;subst eo56
     go_wp2_with(first| ((with_reducible refine gate_callee (f:=76) rfl ?_);refine gl_ (some 59) rfl rfl Try.func76 #[.slice Ao56 x7_2.length co56] ?_;(with_reducible refine(spec_Blocks.calls k2 _ _ x7_2 t114 t115 _ ?side1 ?side2 A40.o).mono ?_);(case side1=>exact ca_ (Kd.N_reads' O_7.o).2.2);(case side2=>exact(Kd.N_reads' O_7.o).2.1);rintro e w57 ⟨v116,rfl,ho0,hb⟩;refine⟨_,rfl,?_⟩;have O117:=q_ (Kd.R_lower (Kd.R_newM (M:=fun k_=>(w.heap.size≤k_)) ho0 (below_size (be3_ HB.o G101.o G102.o G103.o)) (fun k_ h_=>h_)) (below_size (be3_ HB.o G101.o G102.o G103.o)));replace O_7:=eN_ O_7 (Kd.R_base ho0) hb;replace O_102001:=eV_ O_102001 (Kd.R_base ho0) hb;replace Q101:=lb_ Q101 hb;replace Q102:=lb_ Q102 hb;replace Q103:=lb_ Q103 hb;replace HB:=sb3_ HB G101 G102 G103 hb;clear hb ho0;obtain⟨Ao58,co58,eo58⟩:=Kd.R_slice O117.o;subst eo58)| ((with_reducible refine gate_dst (N:=67) rfl ?_);refine Kd.R_make (Kd.int .u8) _ 5 rfl (N:=67) rfl 39 _ _ rfl t115 rfl rfl Try.underlying39 (.int .u8 0) 1 info5 rfl (by decide) (by omega) 0 (ok:=fun _=>True) (okp:=fun _=>True) rfl (fun _ hk=>hk) trivial (ot_ as_) (Nat.le_trans (Nat.mul_le_mul_right _ (ot_ as_:t115.toNat≤281474976710656)) (by omega)) (Below.refl _ _) (Nat.le_refl _) ?_;intro v119 w59 ho60 hb hg_ hnew_;clear hg_ hnew_;(rw[←Ny118.o]at ho60);have O120:=q_ (Kd.R_lower (Kd.R_newM (M:=fun k_=>(w.heap.size≤k_)) ho60 (below_size (be3_ HB.o G101.o G102.o G103.o)) (fun k_ h_=>h_)) (below_size (be3_ HB.o G101.o G102.o G103.o)));replace O_7:=eN_ O_7 (Kd.R_base ho60) hb;replace O_102001:=eV_ O_102001 (Kd.R_base ho60) hb;replace O117:=bR_ O117 hb;replace Q101:=lb_ Q101 hb;replace Q102:=lb_ Q102 hb;replace Q103:=lb_ Q103 hb;replace HB:=sb3_ HB G101 G102 G103 hb;clear hb ho60))
     go_loopg [12] k2 (fun kq v12 w'=>∃(x11_3:List Int) (x12_3:Int),v12= .int .i64 x12_3∧J0 (spec_BuildDfa.l1 kq a1 t114 t115 x11_3 x12_3 a0_0 l0_1 l0_2=some (r1,r2,r3,r4))∧J0 (kq≤k2)∧J0 (Kd.R (Kd.int .i64) 2 w' w.heap.size (fun k_=>(w.heap.size≤k_)) (.slice Ao58 t114.length co58) t114)∧J0 (Kd.R (Kd.int .u8) 5 w' w.heap.size (fun k_=>(w.heap.size≤k_)) v119 x11_3)∧J0 (Kd.V k116 116 w' w.heap.size (fun k_=>(P0_1_ k_∨w.heap.size≤k_)∧some k_≠((.slice Ao58 t114.length co58):Value).ownBlock∧some k_≠(v119:Value).ownBlock∧k_≠gb101∧k_≠gb102∧k_≠gb103) (.slice A0_1 l0_1.length c0_1) l0_1)∧J0 (w'.heap[gb101]? =some (.cells #[.int .i64 a0_0,(.slice A0_1 l0_1.length c0_1),(.slice A0_2 l0_2.length c0_2)] 60 (0,0)))∧J0 (w'.heap[gb102]? =some (.cells #[(.slice none 0 0),(.slice none 0 0),(.slice none 0 0)] 32 (0,0)))∧J0 (w'.heap[gb103]? =some (.cells #[(.slice none 0 0),(.slice none 0 0),(.slice none 0 0)] 32 (0,0)))∧J0 (Below w.heap.size w w'))
     case atStart=>exact⟨(y118),(255),rs_,H',⟨Nat.le_refl _⟩,⟨mR_ O117 (fun _ hk=>hk.1)⟩,⟨mR_ O120 (fun _ hk=>hk.1)⟩,⟨mV_ O_102001 (fun _ hk=>⟨hk.1.1.1,⟨hk.1.2,⟨hk.2,⟨hk.1.1.2.2.1,⟨hk.1.1.2.2.2.1,hk.1.1.2.2.2.2⟩⟩⟩⟩⟩)⟩,⟨bk_ Q101.o⟩,⟨bk_ Q102.o⟩,⟨bk_ Q103.o⟩,⟨be3_ HB.o G101.o G102.o G103.o⟩⟩
     case round =>
      clear H';clear d29 c41 d41 c41b1 c41b2 d51 c51b1 d52 c52b1 z55_0 z55_1 z55_2 y55_0 y55_1 y55_2;obtain⟨x11_3,x12_3,rfl,HA,HK3,O_9,O_11,O_102001,Q101,Q102,Q103,HB⟩:=hrel;cases gk with
      |zero=>exact absurd HA.o (by simp[spec_BuildDfa.l1])
      | succ k3 =>
       have H:=HA.o;clear HA;simp only[spec_BuildDfa.l1]at H;by_cases c61:x12_3≥0
       ·rw[iP c61]at H;have d61:decide (0≤x12_3)=true:=dt_ c61;clear c61;obtain⟨d62,H⟩:=iq_ H;obtain⟨d63,H⟩:=iq_ H;obtain⟨d64,H⟩:=iq_ H;obtain⟨d65,H⟩:=iq_ H;generalize hy122:(x11_3.set ((rd t114 x12_3):Int).toNat ((x12_3) % 256):List Int)=y122 at H;have Ny122:=q_ hy122.symm;clear hy122;have H':=q_ H;clear H;obtain⟨p121,q121⟩:=pq_ x12_3 (t114.length:Int);obtain⟨ad121,e121,X121_0⟩:=Kd.at_int (Kd.R_reads' O_9.o).2.2 x12_3 p121 q121;cases e121;obtain⟨p121,q121⟩:=et_ p121 q121;obtain⟨p66,q66⟩:=pq_ (rd t114 x12_3) ((x11_3.length:Int):Int);obtain⟨go66,co66,eo66,gb66,gl66,cl66,HG66⟩:=Kd.R_form O_11.o (by omega)
        (cases eo66);have GB66:=q_ gb66;have GG66:=q_ HG66;clear gb66 gl66 HG66;obtain⟨X66_0,hf66_0⟩:=Kd.R_celln 0 O_11.o ((rd t114 x12_3):Int) p66 q66;obtain⟨p66,q66⟩:=et_ p66 q66;have HP67:=Kd.R_putg O_11.o ((rd t114 x12_3):Int) ((x12_3) % 256)
        go_wp2_with(((with_reducible refine gate_store (t:=5) (p:=79) rfl ?_);refine store_event (t:=5) (p:=79) (v:=?vo_w68) (w1:=(wr.setCell ⟨go66,((rd t114 x12_3):Int).toNat,none⟩ (.int .u8 ((x12_3) % 256)))) ?hg ?ho ?hn ?hr ?_;(case ho=>rfl);(case hg=>rfl);(case hn=>rfl);(case hr=>first| (go_simp;done)| (go_simp;rfl));intro w68 hw;have hg:wr.grownBy w68 (some go66):=(by rw[hw];exact HP67.2);have hp_:Kd.R (Kd.int .u8) 5 w68 w.heap.size (fun k_=>(w.heap.size≤k_)) (.slice (some ⟨go66,0,none⟩) x11_3.length co66) y122:=(by rw[hw,Ny122.o];exact HP67.1);clear HP67;replace O_9:=q_ (Kd.R_over' (v:=(.slice (some ⟨go66,0,none⟩) x11_3.length co66)) (ra_ O_9.o) (Kd.R_typed O_11.o) (by decide) hg);replace O_102001:=q_ (Kd.V_afterv (v:=(.slice (some ⟨go66,0,none⟩) x11_3.length co66)) (v1:=(.slice (some ⟨go66,0,none⟩) x11_3.length co66)) (ok:=(fun k_=>(P0_1_ k_∨w.heap.size≤k_)∧some k_≠(.slice (some ad121) t114.length co58:Value).ownBlock∧k_≠gb101∧k_≠gb102∧k_≠gb103)) (mV_ O_102001 (fun _ hk=>⟨⟨hk.1,⟨hk.2.1,⟨hk.2.2.2.1,⟨hk.2.2.2.2.1,hk.2.2.2.2.2⟩⟩⟩⟩,hk.2.2.1⟩)) hg (.inl rfl));replace Q101:=bg_ Q101 hg (Kd.R_ne O_11.o Q101.o (by decide));replace Q102:=bg_ Q102 hg (Kd.R_ne O_11.o Q102.o (by decide));replace Q103:=bg_ Q103 hg (Kd.R_ne O_11.o Q103.o (by decide));replace O_11:=q_ (hp_);replace HB:=q_ ((by rw[hw];exact below_set (HB.o) GB66.out:Below w.heap.size w w68));clear hg hw hp_))
        go_roundg k3
        case measure=>have:=HJ2.o;have:=HK2.o;have:=HK3.o;omega
        case rel=>exact⟨(y122),(wrap64 (x12_3-1)),rs_,H',⟨by have:=HJ2.o;have:=HK2.o;have:=HK3.o;omega⟩,⟨ra_ O_9.o⟩,⟨ra_ O_11.o⟩,⟨mV_ O_102001 (fun _ hk=>⟨hk.1.1,⟨hk.1.2.1,⟨hk.2,⟨hk.1.2.2.1,⟨hk.1.2.2.2.1,hk.1.2.2.2.2⟩⟩⟩⟩⟩)⟩,⟨bk_ Q101.o⟩,⟨bk_ Q102.o⟩,⟨bk_ Q103.o⟩,⟨be3_ HB.o G101.o G102.o G103.o⟩⟩
       rw[iN c61]at H;have d61:decide (0≤x12_3)=false:=df_ c61;clear c61;obtain⟨c69,H⟩:=ip_ H;have d69:=eq_true c69;have c69b1:=dt_ c69;clear c69;obtain⟨c70,H⟩:=ip_ H;have d70:=eq_true c70;have c70b1:=dt_ c70;clear c70;obtain⟨y123,Ny123,H⟩:=bs_ H;obtain⟨c71,H⟩:=ip_ H;have d71:=dt_ c71;have c71b1:decide (0<y123.length)=true:=decide_eq_true (by omega);clear c71;generalize hy126:(y123.set (0:Int).toNat true:List Bool)=y126 at H;have Ny126:=q_ hy126.symm;clear hy126;obtain⟨t127,A73,H⟩:=ob_ H;generalize hy130:([t127]:List (List Bool))=y130 at H;have Ny130:=q_ hy130.symm;clear hy130;have H':=q_ H;clear H;have hnb74:=N101_102.o;have hnc74:=N102_101.o;have hnb75:=N101_103.o;have hnc75:=N103_101.o;obtain⟨z76_0,z76_1,z76_2,y76_0,y76_1,y76_2⟩:=d3_ Q101
       go_wp2_with(first| ((with_reducible refine gate_dst (N:=82) rfl ?_);refine Kd.R_make Kd.bool _ 4 rfl (N:=82) rfl 119 _ _ rfl a0_0 rfl rfl Try.underlying119 (.bool false) 1 info4 rfl (by decide) (by omega) false (ok:=fun _=>True) (okp:=fun _=>True) rfl (fun _ hk=>hk) trivial (ot_ as_) (Nat.le_trans (Nat.mul_le_mul_right _ (ot_ as_:a0_0.toNat≤281474976710656)) (by omega)) (Below.refl _ _) (Nat.le_refl _) ?_;intro v124 w77 ho78 hb hg_ hnew_;clear hg_ hnew_;(rw[←Ny123.o]at ho78);have O125:=q_ (Kd.R_lower (Kd.R_newM (M:=fun k_=>(w.heap.size≤k_)) ho78 (below_size (be3_ HB.o G101.o G102.o G103.o)) (fun k_ h_=>h_)) (below_size (be3_ HB.o G101.o G102.o G103.o)));replace O_9:=bR_ O_9 hb;replace O_11:=bR_ O_11 hb;replace O_102001:=eV_ O_102001 (Kd.R_base ho78) hb;replace Q101:=lb_ Q101 hb;replace Q102:=lb_ Q102 hb;replace Q103:=lb_ Q103 hb;replace HB:=sb3_ HB G101 G102 G103 hb;clear hb ho78;have p72:0≤(0:Int):=(by omega);have q72:(0:Int)<((y123.length:Int):Int):=ot_ as_;have qi72:(0<y123.length)=True:=eq_true (by omega);obtain⟨go72,co72,eo72,gb72,gl72,cl72,HG72⟩:=Kd.R_form O125.o (by omega);(cases eo72);have GB72:=q_ gb72;have GG72:=q_ HG72;clear gb72 gl72 HG72;obtain⟨X72_0,hf72_0⟩:=Kd.R_celln false O125.o (0:Int) p72 q72;(try rw[show((0:Int)).toNat=0 from rfl]at X72_0);(try rw[show((0:Int)).toNat=0 from rfl]at hf72_0);obtain⟨p72,q72⟩:=et_ p72 q72;have n_:=q_ (Kd.R_mono (ok':=(fun k_=>(w.heap.size≤k_))) O125.o (fun k_ hk=>hk.1));clear O125;have O125:=n_;clear n_;obtain⟨hy79_,hz79_⟩:=Kd.R_celln false O125.o (0:Int) (by omega) (ot_ as_);(try rw[show((0:Int)).toNat=0 from rfl]at hy79_);(try rw[show((0:Int)).toNat=0 from rfl]at hz79_);have HP79:=Kd.R_putg O125.o (0:Int) true)| ((with_reducible refine gate_store (t:=4) (p:=84) rfl ?_);refine store_event (t:=4) (p:=84) (v:=?vo_w80) (w1:=(w77.setCell ⟨go72,(0:Int).toNat,none⟩ (.bool true))) ?hg ?ho ?hn ?hr ?_;(case ho=>rfl);(case hg=>rfl);(case hn=>rfl);(case hr=>first| (go_simp;done)| (go_simp;rfl));intro w80 hw;have hg:w77.grownBy w80 (some go72):=(by rw[hw];exact HP79.2);have hp_:Kd.R Kd.bool 4 w80 w.heap.size (fun k_=>(w.heap.size≤k_)) (.slice (some ⟨go72,0,none⟩) y123.length co72) y126:=(by rw[hw,Ny126.o];exact HP79.1);clear HP79;replace O_9:=q_ (Kd.R_over' (v:=(.slice (some ⟨go72,0,none⟩) y123.length co72)) (ra_ O_9.o) (Kd.R_typed O125.o) (by decide) hg);replace O_11:=q_ (Kd.R_over' (v:=(.slice (some ⟨go72,0,none⟩) y123.length co72)) (ra_ O_11.o) (Kd.R_typed O125.o) (by decide) hg);replace O_102001:=q_ (Kd.V_afterv (v:=(.slice (some ⟨go72,0,none⟩) y123.length co72)) (v1:=(.slice (some ⟨go72,0,none⟩) y123.length co72)) (ok:=(fun k_=>(P0_1_ k_∨w.heap.size≤k_)∧some k_≠(.slice Ao58 t114.length co58:Value).ownBlock∧some k_≠(v119:Value).ownBlock∧k_≠gb101∧k_≠gb102∧k_≠gb103)) (va_ O_102001.o) hg (.inl rfl));replace Q101:=bg_ Q101 hg (Kd.R_ne O125.o Q101.o (by decide));replace Q102:=bg_ Q102 hg (Kd.R_ne O125.o Q102.o (by decide));replace Q103:=bg_ Q103 hg (Kd.R_ne O125.o Q103.o (by decide));replace O125:=q_ (hp_);replace HB:=q_ ((by rw[hw];exact below_set (HB.o) GB72.out:Below w.heap.size w w80));clear hg hw hp_;obtain⟨z81_0,z81_1,z81_2,y81_0,y81_1,y81_2⟩:=d3_ Q101)| ((with_reducible refine gate_callee (f:=77) rfl ?_);refine goesL_ (some 87) rfl rfl Try.func77 (by kernel_rfl) rfl #[.agg #[.int .i64 a0_0, .slice A0_1 l0_1.length c0_1, .slice A0_2 l0_2.length c0_2], .slice (some ⟨go72,0,none⟩) y126.length co72] rfl (by(try simp only[List.map_toArray,List.map_cons,List.map_nil]);first|done| (rw[show y126.length=y123.length from(Kd.R_reads' O125.o).1.symm]<;>rfl)|rfl| (simp only[List.length_drop,List.length_take];rfl)) ?_;(with_reducible refine(spec_l6Close.calls k3 a0_0 _ _ l0_1 _ _ l0_2 _ _ y126 t127 _ ?side1 ?side2 ?side3 ?side4 ?side5 ?side6 A73.o).mono ?_);(case side1=>exact ca_ (Kd.V_reads' O_102001.o).2.2);(case side2=>exact(Kd.V_reads' O_102001.o).2.1);(case side3=>exact Kd.C_below HR0_2.o (be_ HB.o));(case side4=>exact HC0_2.o);(case side5=>exact ca_ (Kd.R_reads' O125.o).2.2);(case side6=>rw[show y126.length=y123.length from(Kd.R_reads' O125.o).1.symm];exact(Kd.R_reads' O125.o).2.1);rintro e w82 ⟨v128,rfl,ho0,hb⟩;refine⟨_,rfl,?_⟩;have O129:=q_ (Kd.R_lower (Kd.R_new' (Kd.R_newM (M:=fun k_=>(w.heap.size≤k_)) ho0 (below_size (be3_ HB.o G101.o G102.o G103.o)) (fun k_ h_=>h_)) (Kd.R_lt (ra_ O125.o))) (below_size (be3_ HB.o G101.o G102.o G103.o)));replace O_9:=bR_ O_9 hb;replace O_11:=bR_ O_11 hb;replace O_102001:=eV_ O_102001 (Kd.R_base ho0) hb;replace O125:=eR_ O125 (Kd.R_base ho0) hb;replace Q101:=lb_ Q101 hb;replace Q102:=lb_ Q102 hb;replace Q103:=lb_ Q103 hb;replace HB:=sb3_ HB G101 G102 G103 hb;clear hb ho0;obtain⟨Ao83,co83,eo83⟩:=Kd.R_slice O129.o;subst eo83)| ((with_reducible refine gate_dst (N:=88) rfl ?_);refine Kd.N_lit (Kd.slice 4 Kd.bool) _ 119 ?hg (N':=88) ?hd (xs:=([t127]:List (List Bool))) (inner:=[.slice Ao83 t127.length co83]) (ok:=(fun k_=>(P0_1_ k_∨w.heap.size≤k_)∧some k_≠(.slice Ao58 t114.length co58:Value).ownBlock∧some k_≠(v119:Value).ownBlock∧some k_≠(.slice (some ⟨go72,0,none⟩) y123.length co72:Value).ownBlock∧k_≠gb101∧k_≠gb102∧k_≠gb103)) (okp:=(fun k_=>(P0_1_ k_∨w.heap.size≤k_)∧some k_≠(.slice Ao58 t114.length co58:Value).ownBlock∧some k_≠(v119:Value).ownBlock∧some k_≠(.slice (some ⟨go72,0,none⟩) y123.length co72:Value).ownBlock∧k_≠gb101∧k_≠gb102∧k_≠gb103)) ?hr ?hp (fun _ hk=>hk) ((show ∀k_,w82.heap.size≤k_→(fun k_=>(P0_1_ k_∨w.heap.size≤k_)∧some k_≠(.slice Ao58 t114.length co58:Value).ownBlock∧some k_≠(v119:Value).ownBlock∧some k_≠(.slice (some ⟨go72,0,none⟩) y123.length co72:Value).ownBlock∧k_≠gb101∧k_≠gb102∧k_≠gb103) k_ from fun k_ hk=>⟨(.inr (Nat.le_trans (below_size (be3_ HB.o G101.o G102.o G103.o)) hk)),Kd.fresh' (Kd.R_lt (ra_ O_9.o)) k_ hk,Kd.fresh' (Kd.R_lt (ra_ O_11.o)) k_ hk,Kd.fresh' (Kd.R_lt (ra_ O125.o)) k_ hk,fb_ Q101 hk,fb_ Q102 hk,fb_ Q103 hk⟩) _ (Nat.le_refl _)) (Below.refl _ _) (Nat.le_refl _) (by simp) ?_;(case hd=>rfl);(case hg=>rfl);(case hr=>first| (go_simp;done)| (go_simp;rfl));(case hp=>exact(Reps.one (show Kd.FK (Kd.slice 4 Kd.bool) _ _ t127 [.slice Ao83 t127.length co83]from(Kd.FK_slice_mk (Kd.R_reads' (Kd.R_mono (ok':=(fun k_=>(P0_1_ k_∨w.heap.size≤k_)∧some k_≠(.slice Ao58 t114.length co58:Value).ownBlock∧some k_≠(v119:Value).ownBlock∧some k_≠(.slice (some ⟨go72,0,none⟩) y123.length co72:Value).ownBlock∧k_≠gb101∧k_≠gb102∧k_≠gb103)) (Kd.R_types (Kd.R_types (Kd.R_types (Kd.R_apart' (Kd.R_apart' (O129.o) (Kd.R_typed O_9.o) (by decide)) (Kd.R_typed O_11.o) (by decide)) Q101.o (by decide)) Q102.o (by decide)) Q103.o (by decide)) (fun k_ hk=>⟨(.inr (hk.1.1.1.1.1.1.1)),⟨hk.1.1.1.1.2,⟨hk.1.1.1.2,⟨hk.1.1.1.1.1.2,⟨hk.1.1.2,⟨hk.1.2,hk.2⟩⟩⟩⟩⟩⟩))).2.1 (Kd.R_F (Kd.R_mono (ok':=(fun k_=>(P0_1_ k_∨w.heap.size≤k_)∧some k_≠(.slice Ao58 t114.length co58:Value).ownBlock∧some k_≠(v119:Value).ownBlock∧some k_≠(.slice (some ⟨go72,0,none⟩) y123.length co72:Value).ownBlock∧k_≠gb101∧k_≠gb102∧k_≠gb103)) (Kd.R_types (Kd.R_types (Kd.R_types (Kd.R_apart' (Kd.R_apart' (O129.o) (Kd.R_typed O_9.o) (by decide)) (Kd.R_typed O_11.o) (by decide)) Q101.o (by decide)) Q102.o (by decide)) Q103.o (by decide)) (fun k_ hk=>⟨(.inr (hk.1.1.1.1.1.1.1)),⟨hk.1.1.1.1.2,⟨hk.1.1.1.2,⟨hk.1.1.1.1.1.2,⟨hk.1.1.2,⟨hk.1.2,hk.2⟩⟩⟩⟩⟩⟩))))) (Reps.none _ _)));intro v131 w84 ho85 hb hg_ hnew_;clear hg_ hnew_;(rw[←Ny130.o]at ho85);have O132:=q_ (Kd.N_lower ho85 (below_size (be3_ HB.o G101.o G102.o G103.o)));replace O_9:=bR_ O_9 hb;replace O_11:=bR_ O_11 hb;replace O_102001:=eV_ O_102001 (Kd.N_base ho85) hb;replace O125:=bR_ O125 hb;replace Q101:=lb_ Q101 hb;replace Q102:=lb_ Q102 hb;replace Q103:=lb_ Q103 hb;replace HB:=sb3_ HB G101 G102 G103 hb;clear O129 hb ho85)| ((with_reducible refine gate_dst (N:=15) rfl ?_);refine bx_ 15 #[.slice none 0 0, .slice none 0 0, .slice none 0 0] 32 ?_;intro gb133 hg w86 hbox hb;have Q133:=q_ (hbox);have G133:=ge3_ hg HB G101 G102 G103;have N101_133:=nl_ hg Q101;have N133_101:=ng_ hg Q101;have N102_133:=nl_ hg Q102;have N133_102:=ng_ hg Q102;have N103_133:=nl_ hg Q103;have N133_103:=ng_ hg Q103;replace O_9:=bR_ O_9 hb;replace O_11:=bR_ O_11 hb;replace O_102001:=q_ (Kd.V_below (Kd.V_elderB (va_ O_102001.o) gb133 (Nat.le_of_eq hg.symm)) hb);replace O125:=bR_ O125 hb;replace O132:=q_ (Kd.N_below (Kd.N_elderB (na_ O132.o) gb133 (Nat.le_of_eq hg.symm)) hb);replace Q101:=lb_ Q101 hb;replace Q102:=lb_ Q102 hb;replace Q103:=lb_ Q103 hb;replace HB:=sb3_ HB G101 G102 G103 hb;clear hb hbox hg;have hnb87:=N133_101.o;have hnc87:=N101_133.o;have hnb88:=N133_102.o;have hnc88:=N102_133.o;have hnb89:=N133_103.o;have hnc89:=N103_133.o;obtain⟨z90_0,z90_1,z90_2,y90_0,y90_1,y90_2⟩:=d3_ Q133))
       go_loopg [14,16] k3 (fun kq v14 v16 w'=>∃(x14_4:List (List Bool)) (x16_4:Int) (x134001_4:List (List Int)) (x134002_4:List Int) (u134001:Value) (u134002:Value),v16= .int .i64 x16_4∧J0 (spec_BuildDfa.l2 kq a1 t115 x11_3 x14_4 x16_4 a0_0 l0_1 l0_2 t114 x134001_4 x134002_4=some (r1,r2,r3,r4))∧J0 (kq≤k3)∧J0 (Kd.R (Kd.int .u8) 5 w' w.heap.size (fun k_=>(w.heap.size≤k_)) v119 x11_3)∧J0 (Kd.N (Kd.slice 4 Kd.bool) 119 w' w.heap.size (fun k_=>(P0_1_ k_∨w.heap.size≤k_)∧some k_≠(v119:Value).ownBlock∧some k_≠((.slice Ao58 t114.length co58):Value).ownBlock∧some k_≠(u134001:Value).ownBlock∧some k_≠(u134002:Value).ownBlock∧k_≠gb101∧k_≠gb102∧k_≠gb103∧k_≠gb133) v14 x14_4)∧J0 (Kd.V k116 116 w' w.heap.size (fun k_=>(P0_1_ k_∨w.heap.size≤k_)∧some k_≠(v119:Value).ownBlock∧some k_≠(v14:Value).ownBlock∧some k_≠((.slice Ao58 t114.length co58):Value).ownBlock∧some k_≠(u134001:Value).ownBlock∧some k_≠(u134002:Value).ownBlock∧k_≠gb101∧k_≠gb102∧k_≠gb103∧k_≠gb133) (.slice A0_1 l0_1.length c0_1) l0_1)∧J0 (Kd.R (Kd.int .i64) 2 w' w.heap.size (fun k_=>(w.heap.size≤k_)∧some k_≠(u134002:Value).ownBlock) (.slice Ao58 t114.length co58) t114)∧J0 (Kd.N (Kd.slice 2 (Kd.int .i64)) 22 w' w.heap.size (fun k_=>(P0_1_ k_∨w.heap.size≤k_)∧some k_≠(v119:Value).ownBlock∧some k_≠(v14:Value).ownBlock∧some k_≠((.slice Ao58 t114.length co58):Value).ownBlock∧some k_≠(u134002:Value).ownBlock∧k_≠gb101∧k_≠gb102∧k_≠gb103∧k_≠gb133) u134001 x134001_4)∧J0 (Kd.R (Kd.int .i64) 2 w' w.heap.size (fun k_=>(w.heap.size≤k_)∧some k_≠((.slice Ao58 t114.length co58):Value).ownBlock) u134002 x134002_4)∧J0 (w'.heap[gb101]? =some (.cells #[.int .i64 a0_0,(.slice A0_1 l0_1.length c0_1),(.slice A0_2 l0_2.length c0_2)] 60 (0,0)))∧J0 (w'.heap[gb102]? =some (.cells #[(.slice none 0 0),(.slice none 0 0),(.slice none 0 0)] 32 (0,0)))∧J0 (w'.heap[gb103]? =some (.cells #[(.slice none 0 0),(.slice none 0 0),(.slice none 0 0)] 32 (0,0)))∧J0 (w'.heap[gb133]? =some (.cells #[(.slice Ao58 t114.length co58),u134001,u134002] 32 (0,0)))∧J0 (Below w.heap.size w w'))
       case atStart=>exact⟨(y130),(0),(([]:List (List Int))),(([]:List Int)),(.slice none 0 0),(.slice none 0 0),rs_,H',⟨Nat.le_refl _⟩,⟨Kd.R_mono (rfR_ (Kd.R_types O_11.o Q133.o (by decide))) (fun _ hk=>hk.1)⟩,⟨Kd.N_mono (rfN_ (Kd.N_mono O132.o (fun k_ hk=>(⟨hk,hk.2⟩:_∧k_≠gb133)))) (fun _ hk=>⟨hk.1.1.1,⟨hk.1.1.2.2.1,⟨hk.1.1.2.1,⟨(by simp[Value.ownBlock]),⟨(by simp[Value.ownBlock]),⟨hk.1.1.2.2.2.2.1,⟨hk.1.1.2.2.2.2.2.1,⟨hk.1.1.2.2.2.2.2.2,hk.1.2⟩⟩⟩⟩⟩⟩⟩⟩)⟩,⟨Kd.V_mono (rfV_ (Kd.V_mono O_102001.o (fun k_ hk=>(⟨hk,hk.2⟩:_∧k_≠gb133)))) (fun _ hk=>⟨hk.1.1.1.1.1.1,⟨hk.1.1.1.1.1.2.2.1,⟨hk.1.1.2,⟨hk.1.1.1.1.1.2.1,⟨(by simp[Value.ownBlock]),⟨(by simp[Value.ownBlock]),⟨hk.1.1.1.1.1.2.2.2.1,⟨hk.1.1.1.1.1.2.2.2.2.1,⟨hk.1.1.1.1.1.2.2.2.2.2,hk.1.2⟩⟩⟩⟩⟩⟩⟩⟩⟩)⟩,⟨Kd.R_mono (rfR_ (Kd.R_types O_9.o Q133.o (by decide))) (fun _ hk=>⟨hk.1,(by simp[Value.ownBlock])⟩)⟩,⟨by exact Kd.N_nil _ _ _ _ _⟩,⟨by exact Kd.R_nil _ _ _ _ _⟩,⟨by(with_reducible repeat(first|refine blk_drewN ?_ _|refine blk_drew ?_|refine blk_alloc ?_ _));refine blk_far ?_ N101_133.o _;(with_reducible repeat(first|refine blk_drewN ?_ _|refine blk_drew ?_|refine blk_alloc ?_ _));refine blk_far ?_ N101_133.o _;(with_reducible repeat(first|refine blk_drewN ?_ _|refine blk_drew ?_|refine blk_alloc ?_ _));refine blk_far ?_ N101_133.o _;(with_reducible repeat(first|refine blk_drewN ?_ _|refine blk_drew ?_|refine blk_alloc ?_ _));exact Q101.o⟩,⟨by(with_reducible repeat(first|refine blk_drewN ?_ _|refine blk_drew ?_|refine blk_alloc ?_ _));refine blk_far ?_ N102_133.o _;(with_reducible repeat(first|refine blk_drewN ?_ _|refine blk_drew ?_|refine blk_alloc ?_ _));refine blk_far ?_ N102_133.o _;(with_reducible repeat(first|refine blk_drewN ?_ _|refine blk_drew ?_|refine blk_alloc ?_ _));refine blk_far ?_ N102_133.o _;(with_reducible repeat(first|refine blk_drewN ?_ _|refine blk_drew ?_|refine blk_alloc ?_ _));exact Q102.o⟩,⟨by(with_reducible repeat(first|refine blk_drewN ?_ _|refine blk_drew ?_|refine blk_alloc ?_ _));refine blk_far ?_ N103_133.o _;(with_reducible repeat(first|refine blk_drewN ?_ _|refine blk_drew ?_|refine blk_alloc ?_ _));refine blk_far ?_ N103_133.o _;(with_reducible repeat(first|refine blk_drewN ?_ _|refine blk_drew ?_|refine blk_alloc ?_ _));refine blk_far ?_ N103_133.o _;(with_reducible repeat(first|refine blk_drewN ?_ _|refine blk_drew ?_|refine blk_alloc ?_ _));exact Q103.o⟩,⟨by(with_reducible repeat(first|refine blk_drewN ?_ _|refine blk_drew ?_|refine blk_alloc ?_ _));refine blk_put (cs:=#[.slice Ao58 t114.length co58, .slice none 0 0, .slice none 0 0]) ?_ 2 _ rfl;(with_reducible repeat(first|refine blk_drewN ?_ _|refine blk_drew ?_|refine blk_alloc ?_ _));refine blk_put (cs:=#[.slice Ao58 t114.length co58, .slice none 0 0, .slice none 0 0]) ?_ 1 _ rfl;(with_reducible repeat(first|refine blk_drewN ?_ _|refine blk_drew ?_|refine blk_alloc ?_ _));refine blk_put (cs:=#[.slice none 0 0, .slice none 0 0, .slice none 0 0]) ?_ 0 _ rfl;(with_reducible repeat(first|refine blk_drewN ?_ _|refine blk_drew ?_|refine blk_alloc ?_ _));exact Q133.o⟩,⟨be4_ HB.o G101.o G102.o G103.o G133.o⟩⟩
       case round=>
        clear H';clear d61 d69 c69b1 d70 c70b1 d71 c71b1 p72 q72 qi72 z76_0 z76_1 z76_2 z81_0 z81_1 z81_2 z90_0 z90_1 z90_2 y76_0 y76_1 y76_2 y81_0 y81_1 y81_2 y90_0 y90_1 y90_2 X72_0;obtain⟨x14_4,x16_4,x134001_4,x134002_4,u134001,u134002,rfl,HA,HK4,O_11,O_14,O_102001,O_134000,O_134001,O_134002,Q101,Q102,Q103,Q133,HB⟩:=hrel;cases gk with
        |zero=>exact absurd HA.o (by simp[spec_BuildDfa.l2])
        | succ k4=>
         have H:=HA.o;clear HA;simp only[spec_BuildDfa.l2]at H;by_cases c91:x16_4<(x14_4.length:Int);rotate_left
         ·rw[iN c91]at H;have d91:=df_ c91;clear c91;simp only[Option.some.injEq,Prod.mk.injEq]at H;obtain⟨rfl,rfl,rfl,rfl⟩:=H;obtain⟨Ao162,co162,eo162⟩:=Kd.N_slice O_14.o;subst eo162;have hnb163:=N133_101.o;have hnc163:=N101_133.o;have hnb164:=N133_102.o;have hnc164:=N102_133.o;have hnb165:=N133_103.o;have hnc165:=N103_133.o;obtain⟨z166_0,z166_1,z166_2,y166_0,y166_1,y166_2⟩:=d3_ Q133;have hnb167:=N102_101.o;have hnc167:=N101_102.o;have hnb168:=N102_103.o;have hnc168:=N103_102.o;obtain⟨z169_0,z169_1,z169_2,y169_0,y169_1,y169_2⟩:=d3_ Q102;obtain⟨Ao170,co170,eo170⟩:=Kd.N_slice O_134001.o;subst eo170;obtain⟨Ao171,co171,eo171⟩:=Kd.R_slice O_134002.o;subst eo171;go_wp2
          refine bodyPost_ret (results_ct rfl _ _ gb102 32 #[.slice Ao58 t114.length co58, .slice Ao170 x134001_4.length co170, .slice Ao171 x134002_4.length co171] (0,0) _ rfl (bp_ Q102) Try.underlying32 rfl (by kernel_rfl)) rfl ?_;exact⟨_,_,_,rt_,by(with_reducible repeat(first|apply Kd.R_alloc|apply Kd.R_drewN|apply Kd.R_drew));exact Kd.R_mono (rfR_ (Kd.R_types O_134000.o Q102.o (by decide))) (fun _ hk=>⟨hk.1.1,hk.1.2⟩),by(with_reducible repeat(first|apply Kd.N_alloc|apply Kd.N_drewN|apply Kd.N_drew));exact Kd.N_mono (rfN_ (Kd.N_mono O_134001.o (fun k_ hk=>(⟨hk,hk.2.2.2.2.2.2.1⟩:_∧k_≠gb102)))) (fun _ hk=>⟨hk.1.1,⟨hk.1.2.2.2.1,hk.1.2.2.2.2.1⟩⟩),by(with_reducible repeat(first|apply Kd.R_alloc|apply Kd.R_drewN|apply Kd.R_drew));exact Kd.R_mono (rfR_ (Kd.R_types O_134002.o Q102.o (by decide))) (fun _ hk=>⟨hk.1.1,hk.1.2⟩),be4_ HB.o G101.o G102.o G103.o G133.o⟩
         rw[iP c91]at H;have d91:=dt_ c91;clear c91;generalize hy134:([]:List Int)=y134 at H;have Ny134:=q_ hy134.symm;clear hy134;have H':=q_ H;clear H;obtain⟨Ao92,co92,eo92⟩:=Kd.N_slice O_14.o;subst eo92
         go_wp2_with(((with_reducible refine gate_dst (N:=97) rfl ?_);refine Kd.R_lit (Kd.int .i64) _ 2 ?hg (N:=97) ?hd (xs:=([]:List Int)) (inner:=[]) (ok:=fun _=>True) (okp:=fun _=>True) ?hr ?hp (fun _ hk=>hk) trivial (Below.refl _ _) (Nat.le_refl _) (by simp) ?_;(case hd=>rfl);(case hg=>rfl);(case hr=>first| (go_simp;done)| (go_simp;rfl));(case hp=>exact(Reps.none _ _));intro v135 w93 ho94 hb hg_ hnew_;clear hg_ hnew_;(rw[←Ny134.o]at ho94);have O136:=q_ (Kd.R_lower (Kd.R_new' (Kd.R_new' (Kd.R_newM (M:=fun k_=>(w.heap.size≤k_)) ho94 (below_size (be4_ HB.o G101.o G102.o G103.o G133.o)) (fun k_ h_=>h_)) (Kd.R_lt (ra_ O_134000.o))) (Kd.R_lt (ra_ O_134002.o))) (below_size (be4_ HB.o G101.o G102.o G103.o G133.o)));replace O_11:=bR_ O_11 hb;replace O_14:=eN_ O_14 (Kd.R_base ho94) hb;replace O_102001:=eV_ O_102001 (Kd.R_base ho94) hb;replace O_134000:=eR_ O_134000 (Kd.R_base ho94) hb;replace O_134001:=eN_ O_134001 (Kd.R_base ho94) hb;replace O_134002:=eR_ O_134002 (Kd.R_base ho94) hb;replace Q101:=lb_ Q101 hb;replace Q102:=lb_ Q102 hb;replace Q103:=lb_ Q103 hb;replace Q133:=lb_ Q133 hb;replace HB:=q_ (below_step (be4_ HB.o G101.o G102.o G103.o G133.o) hb);clear hb ho94))
         go_loopg [14,17,18] k4 (fun kq v14 v17 v18 w'=>∃(x14_5:List (List Bool)) (x17_5:List Int) (x18_5:Int),v18= .int .i64 x18_5∧J0 (spec_BuildDfa.l3 kq a1 t115 x11_3 x14_5 x16_4 x17_5 x18_5 a0_0 l0_1 l0_2 t114 x134001_4 x134002_4=some (r1,r2,r3,r4))∧J0 (kq≤k4)∧J0 (Kd.R (Kd.int .u8) 5 w' w.heap.size (fun k_=>(w.heap.size≤k_)) v119 x11_3)∧J0 (Kd.N (Kd.slice 4 Kd.bool) 119 w' w.heap.size (fun k_=>(P0_1_ k_∨w.heap.size≤k_)∧some k_≠(v119:Value).ownBlock∧some k_≠(v17:Value).ownBlock∧some k_≠((.slice Ao58 t114.length co58):Value).ownBlock∧some k_≠(u134001:Value).ownBlock∧some k_≠(u134002:Value).ownBlock∧k_≠gb101∧k_≠gb102∧k_≠gb103∧k_≠gb133) v14 x14_5)∧J0 (Kd.R (Kd.int .i64) 2 w' w.heap.size (fun k_=>(w.heap.size≤k_)∧some k_≠((.slice Ao58 t114.length co58):Value).ownBlock∧some k_≠(u134002:Value).ownBlock) v17 x17_5)∧J0 (Kd.V k116 116 w' w.heap.size (fun k_=>(P0_1_ k_∨w.heap.size≤k_)∧some k_≠(v119:Value).ownBlock∧some k_≠(v14:Value).ownBlock∧some k_≠(v17:Value).ownBlock∧some k_≠((.slice Ao58 t114.length co58):Value).ownBlock∧some k_≠(u134001:Value).ownBlock∧some k_≠(u134002:Value).ownBlock∧k_≠gb101∧k_≠gb102∧k_≠gb103∧k_≠gb133) (.slice A0_1 l0_1.length c0_1) l0_1)∧J0 (Kd.R (Kd.int .i64) 2 w' w.heap.size (fun k_=>(w.heap.size≤k_)∧some k_≠(v17:Value).ownBlock∧some k_≠(u134002:Value).ownBlock) (.slice Ao58 t114.length co58) t114)∧J0 (Kd.N (Kd.slice 2 (Kd.int .i64)) 22 w' w.heap.size (fun k_=>(P0_1_ k_∨w.heap.size≤k_)∧some k_≠(v119:Value).ownBlock∧some k_≠(v14:Value).ownBlock∧some k_≠(v17:Value).ownBlock∧some k_≠((.slice Ao58 t114.length co58):Value).ownBlock∧some k_≠(u134002:Value).ownBlock∧k_≠gb101∧k_≠gb102∧k_≠gb103∧k_≠gb133) u134001 x134001_4)∧J0 (Kd.R (Kd.int .i64) 2 w' w.heap.size (fun k_=>(w.heap.size≤k_)∧some k_≠(v17:Value).ownBlock∧some k_≠((.slice Ao58 t114.length co58):Value).ownBlock) u134002 x134002_4)∧J0 (w'.heap[gb101]? =some (.cells #[.int .i64 a0_0,(.slice A0_1 l0_1.length c0_1),(.slice A0_2 l0_2.length c0_2)] 60 (0,0)))∧J0 (w'.heap[gb102]? =some (.cells #[(.slice none 0 0),(.slice none 0 0),(.slice none 0 0)] 32 (0,0)))∧J0 (w'.heap[gb103]? =some (.cells #[(.slice none 0 0),(.slice none 0 0),(.slice none 0 0)] 32 (0,0)))∧J0 (w'.heap[gb133]? =some (.cells #[(.slice Ao58 t114.length co58),u134001,u134002] 32 (0,0)))∧J0 (Below w.heap.size w w'))
         case atStart=>exact⟨(x14_4),(y134),(0),rs_,H',⟨Nat.le_refl _⟩,⟨ra_ O_11.o⟩,⟨mN_ O_14 (fun _ hk=>⟨hk.1.1,⟨hk.1.2.1,⟨hk.2,⟨hk.1.2.2.1,⟨hk.1.2.2.2.1,⟨hk.1.2.2.2.2.1,⟨hk.1.2.2.2.2.2.1,⟨hk.1.2.2.2.2.2.2.1,⟨hk.1.2.2.2.2.2.2.2.1,hk.1.2.2.2.2.2.2.2.2⟩⟩⟩⟩⟩⟩⟩⟩⟩)⟩,⟨mR_ O136 (fun _ hk=>⟨hk.1.1.1,⟨hk.1.2,hk.2⟩⟩)⟩,⟨mV_ O_102001 (fun _ hk=>⟨hk.1.1,⟨hk.1.2.1,⟨hk.1.2.2.1,⟨hk.2,⟨hk.1.2.2.2.1,⟨hk.1.2.2.2.2.1,⟨hk.1.2.2.2.2.2.1,⟨hk.1.2.2.2.2.2.2.1,⟨hk.1.2.2.2.2.2.2.2.1,⟨hk.1.2.2.2.2.2.2.2.2.1,hk.1.2.2.2.2.2.2.2.2.2⟩⟩⟩⟩⟩⟩⟩⟩⟩⟩)⟩,⟨mR_ O_134000 (fun _ hk=>⟨hk.1.1,⟨hk.2,hk.1.2⟩⟩)⟩,⟨mN_ O_134001 (fun _ hk=>⟨hk.1.1,⟨hk.1.2.1,⟨hk.1.2.2.1,⟨hk.2,⟨hk.1.2.2.2.1,⟨hk.1.2.2.2.2.1,⟨hk.1.2.2.2.2.2.1,⟨hk.1.2.2.2.2.2.2.1,⟨hk.1.2.2.2.2.2.2.2.1,hk.1.2.2.2.2.2.2.2.2⟩⟩⟩⟩⟩⟩⟩⟩⟩)⟩,⟨mR_ O_134002 (fun _ hk=>⟨hk.1.1,⟨hk.2,hk.1.2⟩⟩)⟩,⟨bk_ Q101.o⟩,⟨bk_ Q102.o⟩,⟨bk_ Q103.o⟩,⟨bk_ Q133.o⟩,⟨be4_ HB.o G101.o G102.o G103.o G133.o⟩⟩
         case round=>
          clear H';clear d91;obtain⟨x14_5,x17_5,x18_5,rfl,HA,HK5,O_11,O_14,O_17,O_102001,O_134000,O_134001,O_134002,Q101,Q102,Q103,Q133,HB⟩:=hrel;cases gk with
          |zero=>exact absurd HA.o (by simp[spec_BuildDfa.l3])
          | succ k5=>
           have H:=HA.o;clear HA;simp only[spec_BuildDfa.l3]at H;by_cases c95:x18_5<t115;rotate_left
           ·rw[iN c95]at H;have d95:=df_ c95;clear c95;obtain⟨c142,H⟩:=ip_ H;have LMc142:=q_ c142;clear c142;generalize hy137:(x134001_4++ [x17_5]:List (List Int))=y137 at H;have Ny137:=q_ hy137.symm;clear hy137;obtain⟨d143,H⟩:=iq_ H;obtain⟨d144,H⟩:=iq_ H;obtain⟨t141,A145,H⟩:=ob_ H;obtain⟨c146,H⟩:=ip_ H;have LMc146:=q_ c146;clear c146;generalize hy142:(x134002_4++ [t141]:List Int)=y142 at H;have Ny142:=q_ hy142.symm;clear hy142;have H':=q_ H;clear H;have hnb147:=N133_101.o;have hnc147:=N101_133.o;have hnb148:=N133_102.o;have hnc148:=N102_133.o;have hnb149:=N133_103.o;have hnc149:=N103_133.o;obtain⟨z150_0,z150_1,z150_2,y150_0,y150_1,y150_2⟩:=d3_ Q133;obtain⟨Ao152,co152,eo152⟩:=Kd.R_slice O_17.o;subst eo152
            try go_wp2_with(((with_reducible refine gate_builtin (b:= .append) (xs:=#[.tmp 148, .tmp 150]) rfl ?_);at_builtin;refine Kd.N_append (Kd.slice 2 (Kd.int .i64)) (w0:=w) w.heap.size rfl (.tmp 148) (.tmp 150) 23 22 (.slice none 0 0) 24 rfl Try.underlying23 info22 rfl (by decide) (by omega) u134001 x134001_4 x17_5 [.slice Ao152 x17_5.length co152] (fun k_=>(P0_1_ k_∨w.heap.size≤k_)∧some k_≠(v119:Value).ownBlock∧some k_≠(u14:Value).ownBlock∧some k_≠(.slice Ao58 t114.length co58:Value).ownBlock∧some k_≠(u134002:Value).ownBlock∧k_≠gb101∧k_≠gb102∧k_≠gb103∧k_≠gb133) (fun k_=>((fun k_=>(P0_1_ k_∨w.heap.size≤k_)∧some k_≠(v119:Value).ownBlock∧some k_≠(u14:Value).ownBlock∧some k_≠(.slice Ao58 t114.length co58:Value).ownBlock∧some k_≠(u134002:Value).ownBlock∧k_≠gb101∧k_≠gb102∧k_≠gb103∧k_≠gb133)) k_∧some k_≠(u134001:Value).ownBlock) rfl rfl ?aP (fun _ hk=>hk) ?aF ?aO ?aB ?aS ?aL ?_;(case aP=>exact(Kd.FK_slice_mk (Kd.R_reads' (Kd.R_mono (ok':=(fun k_=>((fun k_=>(P0_1_ k_∨w.heap.size≤k_)∧some k_≠(v119:Value).ownBlock∧some k_≠(u14:Value).ownBlock∧some k_≠(.slice Ao58 t114.length co58:Value).ownBlock∧some k_≠(u134002:Value).ownBlock∧k_≠gb101∧k_≠gb102∧k_≠gb103∧k_≠gb133)) k_∧some k_≠(u134001:Value).ownBlock)) (Kd.R_types (Kd.R_types (Kd.R_types (Kd.R_types (Kd.R_apart' (Kd.R_apart' (Kd.R_apart' (O_17.o) (Kd.R_typed O_11.o) (by decide)) (Kd.N_typed O_14.o) (by decide)) (Kd.N_typed O_134001.o) (by decide)) Q101.o (by decide)) Q102.o (by decide)) Q103.o (by decide)) Q133.o (by decide)) (fun k_ hk=>⟨⟨(.inr (hk.1.1.1.1.1.1.1.1)),⟨hk.1.1.1.1.1.1.2,⟨hk.1.1.1.1.1.2,⟨hk.1.1.1.1.1.1.1.2.1,⟨hk.1.1.1.1.1.1.1.2.2,⟨hk.1.1.1.2,⟨hk.1.1.2,⟨hk.1.2,hk.2⟩⟩⟩⟩⟩⟩⟩⟩,hk.1.1.1.1.2⟩))).2.1 (Kd.R_F (Kd.R_mono (ok':=(fun k_=>((fun k_=>(P0_1_ k_∨w.heap.size≤k_)∧some k_≠(v119:Value).ownBlock∧some k_≠(u14:Value).ownBlock∧some k_≠(.slice Ao58 t114.length co58:Value).ownBlock∧some k_≠(u134002:Value).ownBlock∧k_≠gb101∧k_≠gb102∧k_≠gb103∧k_≠gb133)) k_∧some k_≠(u134001:Value).ownBlock)) (Kd.R_types (Kd.R_types (Kd.R_types (Kd.R_types (Kd.R_apart' (Kd.R_apart' (Kd.R_apart' (O_17.o) (Kd.R_typed O_11.o) (by decide)) (Kd.N_typed O_14.o) (by decide)) (Kd.N_typed O_134001.o) (by decide)) Q101.o (by decide)) Q102.o (by decide)) Q103.o (by decide)) Q133.o (by decide)) (fun k_ hk=>⟨⟨(.inr (hk.1.1.1.1.1.1.1.1)),⟨hk.1.1.1.1.1.1.2,⟨hk.1.1.1.1.1.2,⟨hk.1.1.1.1.1.1.1.2.1,⟨hk.1.1.1.1.1.1.1.2.2,⟨hk.1.1.1.2,⟨hk.1.1.2,⟨hk.1.2,hk.2⟩⟩⟩⟩⟩⟩⟩⟩,hk.1.1.1.1.2⟩)))));(case aB=>exact(be4_ HB.o G101.o G102.o G103.o G133.o));(case aF=>exact(fun k_ hk=>⟨(.inr (Nat.le_trans (below_size (be4_ HB.o G101.o G102.o G103.o G133.o)) hk)),Kd.fresh' (Kd.R_lt (ra_ O_11.o)) k_ hk,Kd.fresh' (Kd.N_lt (na_ O_14.o)) k_ hk,Kd.fresh' (Kd.R_lt (ra_ O_134000.o)) k_ hk,Kd.fresh' (Kd.R_lt (ra_ O_134002.o)) k_ hk,fb_ Q101 hk,fb_ Q102 hk,fb_ Q103 hk,fb_ Q133 hk⟩));(case aO=>exact(mN_ O_134001 (fun _ hk=>⟨hk.1,⟨hk.2.1,⟨hk.2.2.1,⟨hk.2.2.2.2.1,⟨hk.2.2.2.2.2.1,⟨hk.2.2.2.2.2.2.1,⟨hk.2.2.2.2.2.2.2.1,⟨hk.2.2.2.2.2.2.2.2.1,hk.2.2.2.2.2.2.2.2.2⟩⟩⟩⟩⟩⟩⟩⟩)));(case aS=>exact(below_size (be4_ HB.o G101.o G102.o G103.o G133.o)));(case aL=>have:=LMc142.o;omega);intro v138 w151 ho hb hg hat;rw[←Ny137.o]at ho;have O139:=q_ (ho);replace O_11:=q_ (Kd.R_over' (ra_ O_11.o) (Kd.N_typed (na_ O_134001.o)) (by decide) hg);replace O_14:=q_ (Kd.N_afterv (ok:=(fun k_=>(P0_1_ k_∨w.heap.size≤k_)∧some k_≠(v119:Value).ownBlock∧some k_≠(.slice Ao152 x17_5.length co152:Value).ownBlock∧some k_≠(.slice Ao58 t114.length co58:Value).ownBlock∧some k_≠(u134002:Value).ownBlock∧k_≠gb101∧k_≠gb102∧k_≠gb103∧k_≠gb133)) (mN_ O_14 (fun _ hk=>⟨⟨hk.1,⟨hk.2.1,⟨hk.2.2.1,⟨hk.2.2.2.1,⟨hk.2.2.2.2.2.1,⟨hk.2.2.2.2.2.2.1,⟨hk.2.2.2.2.2.2.2.1,⟨hk.2.2.2.2.2.2.2.2.1,hk.2.2.2.2.2.2.2.2.2⟩⟩⟩⟩⟩⟩⟩⟩,hk.2.2.2.2.1⟩)) hg hat);replace O_102001:=q_ (Kd.V_afterv (ok:=(fun k_=>(P0_1_ k_∨w.heap.size≤k_)∧some k_≠(v119:Value).ownBlock∧some k_≠(u14:Value).ownBlock∧some k_≠(.slice Ao152 x17_5.length co152:Value).ownBlock∧some k_≠(.slice Ao58 t114.length co58:Value).ownBlock∧some k_≠(u134002:Value).ownBlock∧k_≠gb101∧k_≠gb102∧k_≠gb103∧k_≠gb133)) (mV_ O_102001 (fun _ hk=>⟨⟨hk.1,⟨hk.2.1,⟨hk.2.2.1,⟨hk.2.2.2.1,⟨hk.2.2.2.2.1,⟨hk.2.2.2.2.2.2.1,⟨hk.2.2.2.2.2.2.2.1,⟨hk.2.2.2.2.2.2.2.2.1,⟨hk.2.2.2.2.2.2.2.2.2.1,hk.2.2.2.2.2.2.2.2.2.2⟩⟩⟩⟩⟩⟩⟩⟩⟩,hk.2.2.2.2.2.1⟩)) hg hat);replace O_134000:=q_ (Kd.R_over' (ra_ O_134000.o) (Kd.N_typed (na_ O_134001.o)) (by decide) hg);replace O_134002:=q_ (Kd.R_over' (ra_ O_134002.o) (Kd.N_typed (na_ O_134001.o)) (by decide) hg);replace Q101:=bg_ Q101 hg (Kd.N_ne O_134001.o Q101.o (by decide));replace Q102:=bg_ Q102 hg (Kd.N_ne O_134001.o Q102.o (by decide));replace Q103:=bg_ Q103 hg (Kd.N_ne O_134001.o Q103.o (by decide));replace Q133:=bg_ Q133 hg (Kd.N_ne O_134001.o Q133.o (by decide));replace HB:=q_ (hb);clear O_134001 O_17 ho hb hg hat;obtain⟨Ao153,co153,eo153⟩:=Kd.N_slice O139.o;subst eo153;obtain⟨z154_0,z154_1,z154_2,y154_0,y154_1,y154_2⟩:=d3_ Q133))
            have n0_:J0 (Kd.R (Kd.int .u8) 5 (w151.setCell ⟨gb133,1,none⟩ (.slice Ao153 y137.length co153)) w.heap.size (fun k_=>(w.heap.size≤k_)) v119 x11_3):=⟨Kd.R_mono (rfR_ (Kd.R_types O_11.o Q133.o (by decide))) (fun _ hk=>hk.1)⟩;have n1_:J0 (Kd.N (Kd.slice 4 Kd.bool) 119 (w151.setCell ⟨gb133,1,none⟩ (.slice Ao153 y137.length co153)) w.heap.size (fun k_=>(P0_1_ k_∨w.heap.size≤k_)∧some k_≠(v119:Value).ownBlock∧some k_≠(.slice Ao58 t114.length co58:Value).ownBlock∧some k_≠(u134002:Value).ownBlock∧some k_≠(.slice Ao153 y137.length co153:Value).ownBlock∧k_≠gb101∧k_≠gb102∧k_≠gb103∧k_≠gb133) u14 x14_5):=⟨Kd.N_mono (rfN_ (Kd.N_mono O_14.o (fun k_ hk=>(⟨hk,hk.1.2.2.2.2.2.2.2.2⟩:_∧k_≠gb133)))) (fun _ hk=>⟨hk.1.1.1,⟨hk.1.1.2.1,⟨hk.1.1.2.2.2.1,⟨hk.1.1.2.2.2.2.1,⟨hk.1.2,⟨hk.1.1.2.2.2.2.2.1,⟨hk.1.1.2.2.2.2.2.2.1,⟨hk.1.1.2.2.2.2.2.2.2.1,hk.1.1.2.2.2.2.2.2.2.2⟩⟩⟩⟩⟩⟩⟩⟩)⟩;have n2_:J0 (Kd.V k116 116 (w151.setCell ⟨gb133,1,none⟩ (.slice Ao153 y137.length co153)) w.heap.size (fun k_=>(P0_1_ k_∨w.heap.size≤k_)∧some k_≠(v119:Value).ownBlock∧some k_≠(u14:Value).ownBlock∧some k_≠(.slice Ao58 t114.length co58:Value).ownBlock∧some k_≠(u134002:Value).ownBlock∧some k_≠(.slice Ao153 y137.length co153:Value).ownBlock∧k_≠gb101∧k_≠gb102∧k_≠gb103∧k_≠gb133) (.slice A0_1 l0_1.length c0_1) l0_1):=⟨Kd.V_mono (rfV_ (Kd.V_mono O_102001.o (fun k_ hk=>(⟨hk,hk.1.2.2.2.2.2.2.2.2.2⟩:_∧k_≠gb133)))) (fun _ hk=>⟨hk.1.1.1,⟨hk.1.1.2.1,⟨hk.1.1.2.2.1,⟨hk.1.1.2.2.2.2.1,⟨hk.1.1.2.2.2.2.2.1,⟨hk.1.2,⟨hk.1.1.2.2.2.2.2.2.1,⟨hk.1.1.2.2.2.2.2.2.2.1,⟨hk.1.1.2.2.2.2.2.2.2.2.1,hk.1.1.2.2.2.2.2.2.2.2.2⟩⟩⟩⟩⟩⟩⟩⟩⟩)⟩;have n3_:J0 (Kd.R (Kd.int .i64) 2 (w151.setCell ⟨gb133,1,none⟩ (.slice Ao153 y137.length co153)) w.heap.size (fun k_=>(w.heap.size≤k_)∧some k_≠(u134002:Value).ownBlock) (.slice Ao58 t114.length co58) t114):=⟨Kd.R_mono (rfR_ (Kd.R_types O_134000.o Q133.o (by decide))) (fun _ hk=>⟨hk.1.1,hk.1.2.2⟩)⟩;have n4_:J0 (Kd.R (Kd.int .i64) 2 (w151.setCell ⟨gb133,1,none⟩ (.slice Ao153 y137.length co153)) w.heap.size (fun k_=>(w.heap.size≤k_)∧some k_≠(.slice Ao58 t114.length co58:Value).ownBlock) u134002 x134002_4):=⟨Kd.R_mono (rfR_ (Kd.R_types O_134002.o Q133.o (by decide))) (fun _ hk=>⟨hk.1.1,hk.1.2.2⟩)⟩;have n5_:J0 (Kd.N (Kd.slice 2 (Kd.int .i64)) 22 (w151.setCell ⟨gb133,1,none⟩ (.slice Ao153 y137.length co153)) w.heap.size (fun k_=>(P0_1_ k_∨w.heap.size≤k_)∧some k_≠(v119:Value).ownBlock∧some k_≠(u14:Value).ownBlock∧some k_≠(.slice Ao58 t114.length co58:Value).ownBlock∧some k_≠(u134002:Value).ownBlock∧k_≠gb101∧k_≠gb102∧k_≠gb103∧k_≠gb133) (.slice Ao153 y137.length co153) y137):=⟨Kd.N_mono (rfN_ (Kd.N_mono O139.o (fun k_ hk=>(⟨hk,hk.2.2.2.2.2.2.2.2⟩:_∧k_≠gb133)))) (fun _ hk=>⟨hk.1.1,⟨hk.1.2.1,⟨hk.1.2.2.1,⟨hk.1.2.2.2.1,⟨hk.1.2.2.2.2.1,⟨hk.1.2.2.2.2.2.1,⟨hk.1.2.2.2.2.2.2.1,⟨hk.1.2.2.2.2.2.2.2.1,hk.1.2.2.2.2.2.2.2.2⟩⟩⟩⟩⟩⟩⟩⟩)⟩;have n6_:J0 ((w151.setCell ⟨gb133,1,none⟩ (.slice Ao153 y137.length co153)).heap[gb101]? =some (.cells #[.int .i64 a0_0, .slice A0_1 l0_1.length c0_1, .slice A0_2 l0_2.length c0_2] 60 (0,0))):=⟨by(with_reducible repeat(first|refine blk_drewN ?_ _|refine blk_drew ?_|refine blk_alloc ?_ _));refine blk_far ?_ N101_133.o _;(with_reducible repeat(first|refine blk_drewN ?_ _|refine blk_drew ?_|refine blk_alloc ?_ _));exact Q101.o⟩;have n7_:J0 ((w151.setCell ⟨gb133,1,none⟩ (.slice Ao153 y137.length co153)).heap[gb102]? =some (.cells #[.slice none 0 0, .slice none 0 0, .slice none 0 0] 32 (0,0))):=⟨by(with_reducible repeat(first|refine blk_drewN ?_ _|refine blk_drew ?_|refine blk_alloc ?_ _));refine blk_far ?_ N102_133.o _;(with_reducible repeat(first|refine blk_drewN ?_ _|refine blk_drew ?_|refine blk_alloc ?_ _));exact Q102.o⟩;have n8_:J0 ((w151.setCell ⟨gb133,1,none⟩ (.slice Ao153 y137.length co153)).heap[gb103]? =some (.cells #[.slice none 0 0, .slice none 0 0, .slice none 0 0] 32 (0,0))):=⟨by(with_reducible repeat(first|refine blk_drewN ?_ _|refine blk_drew ?_|refine blk_alloc ?_ _));refine blk_far ?_ N103_133.o _;(with_reducible repeat(first|refine blk_drewN ?_ _|refine blk_drew ?_|refine blk_alloc ?_ _));exact Q103.o⟩;have n9_:J0 ((w151.setCell ⟨gb133,1,none⟩ (.slice Ao153 y137.length co153)).heap[gb133]? =some (.cells #[.slice Ao58 t114.length co58, .slice Ao153 y137.length co153,u134002] 32 (0,0))):=⟨by(with_reducible repeat(first|refine blk_drewN ?_ _|refine blk_drew ?_|refine blk_alloc ?_ _));refine blk_put (cs:=#[.slice Ao58 t114.length co58,u134001,u134002]) ?_ 1 _ rfl;(with_reducible repeat(first|refine blk_drewN ?_ _|refine blk_drew ?_|refine blk_alloc ?_ _));exact Q133.o⟩;have n10_:J0 (Below w.heap.size w (w151.setCell ⟨gb133,1,none⟩ (.slice Ao153 y137.length co153))):=⟨be4_ HB.o G101.o G102.o G103.o G133.o⟩;clear O_11;clear O_14;clear O_102001;clear O_134000;clear O_134002;clear O139;clear Q101;clear Q102;clear Q103;clear Q133;clear HB;generalize(w151.setCell ⟨gb133,1,none⟩ (.slice Ao153 y137.length co153))=w155 at n0_ n1_ n2_ n3_ n4_ n5_ n6_ n7_ n8_ n9_ n10_ ⊢;have O_11:=n0_;have O_14:=n1_;have O_102001:=n2_;have O_134000:=n3_;have O_134002:=n4_;have O139:=n5_;have Q101:=n6_;have Q102:=n7_;have Q103:=n8_;have Q133:=n9_;have HB:=n10_;clear n0_ n1_ n2_ n3_ n4_ n5_ n6_ n7_ n8_ n9_ n10_;replace O_11:=q_ (Kd.R_drew O_11.o);replace O_14:=q_ (Kd.N_drew O_14.o);replace O_102001:=q_ (Kd.V_drew O_102001.o);replace O_134000:=q_ (Kd.R_drew O_134000.o);replace O_134002:=q_ (Kd.R_drew O_134002.o);replace O139:=q_ (Kd.N_drew O139.o);replace Q101:=q_ (blk_drew Q101.o);replace Q102:=q_ (blk_drew Q102.o);replace Q103:=q_ (blk_drew Q103.o);replace Q133:=q_ (blk_drew Q133.o);replace HB:=q_ (below_drew1 HB.o);obtain⟨Ao157,co157,eo157⟩:=Kd.N_slice O_14.o
            (subst eo157)
            obtain⟨p140,q140⟩:=pq_ x16_4 (x14_5.length:Int);obtain⟨ad140,A140_0,c140_0,e140,X140_0,hl140_0,hi140_0⟩:=at_L11 (Kd.N_reads' O_14.o).2.2 x16_4 p140 q140;cases e140;obtain⟨ce140,hce140,hMe140,hcc140⟩:=Kd.N_get O_14.o [] x16_4 p140 (by exact q140);obtain⟨ua140_0,uc140_0,rfl,ul140_0,ge140_0⟩:=Kd.FK_slice_open hMe140;have hv140_0:=hcc140 0 _ rfl;rw[Nat.add_zero,show((Kd.slice 4 Kd.bool)).sz=1 from rfl,Nat.mul_one]at hv140_0;replace hv140_0:=Option.some.inj (hv140_0.symm.trans X140_0);injection hv140_0 with hva_ hvn_ hvc_
            rw[hva_]at ge140_0;rw[hvc_]at ul140_0;have HL140_0:=q_ (show Kd.V Kd.bool 4 _ w.heap.size _ _ (rd_L11 x14_5 x16_4)from Kd.V_mk ul140_0 ge140_0);clear hva_ hvn_ hvc_ ge140_0 ul140_0 hcc140 hce140;have HR140_0:=q_ hi140_0;have HC140_0:=q_ hl140_0;clear hi140_0 hl140_0;obtain⟨p140,q140⟩:=et_ p140 q140;refine start_ (n:=12) (S:=fun w'=>w'.cell? ⟨gb133,0,none⟩=some (.slice Ao58 t114.length co58)∧w'.cell? ⟨gb133,1,none⟩=some (.slice Ao153 y137.length co153)∧w'.cell? ⟨gb133,2,none⟩=some (u134002)∧w'.cell? ⟨gb101,0,none⟩=some (.int .i64 a0_0)∧w'.cell? ⟨gb101,1,none⟩=some (.slice A0_1 l0_1.length c0_1)∧w'.cell? ⟨gb101,2,none⟩=some (.slice A0_2 l0_2.length c0_2)∧w'.cell? (ad140.add (x16_4).toNat)=some (.slice A140_0 (rd_L11 x14_5 x16_4).length c140_0)) (ds:=[9,11]) (bb 12 0) (by kernel_rfl) rfl rfl ⟨(blk_cell Q133.o 0).trans rfl,(blk_cell Q133.o 1).trans rfl,(blk_cell Q133.o 2).trans rfl,(blk_cell Q101.o 0).trans rfl,(blk_cell Q101.o 1).trans rfl,(blk_cell Q101.o 2).trans rfl,X140_0⟩ (fun hHeld=>?_);refine with_tabW spec_BuildDfa.tab43 spec_BuildDfa.bits43 (fun HT_ HW_=>?_);generalize w155.drew=w156 at O_11 O_14 O_102001 O_134000 O_134002 O139 Q101 Q102 Q103 Q133 HB HL140_0 HR140_0 X140_0 hHeld ⊢;refine pv_ 0 153 1 HT_.o ?_;refine pv_ 3 156 9 HT_.o ?_;refine pv_ 4 157 25 HT_.o ?_;refine pv_ 5 158 57 HT_.o ?_;refine tv_ 1 154 59 HT_.o HW_.o hHeld ?_;refine tv_ 2 155 63 HT_.o HW_.o hHeld ?_;refine tv_ 6 159 127 HT_.o HW_.o hHeld ?_;refine one_ (i:=7) (N:=some 160) (bb 12 255) rfl rfl (one_of HT_.o (by kernel_rfl)) (by decide) (fun K hK=>?_);refine gs_ Try.func80 #[.agg #[.int .i64 a0_0, .slice A0_1 l0_1.length c0_1, .slice A0_2 l0_2.length c0_2], .slice A140_0 (rd_L11 x14_5 x16_4).length c140_0] ?_
            with_reducible refine(spec_l7Accept.calls k5 a0_0 _ _ l0_1 _ _ l0_2 _ _ (rd_L11 x14_5 x16_4) t141 _ ?side1 ?side2 ?side3 ?side4 ?side5 ?side6 A145.o).mono ?_
            (case side1=>exact ca_ (Kd.V_reads' O_102001.o).2.2);(case side2=>exact(Kd.V_reads' O_102001.o).2.1);(case side3=>exact Kd.C_below HR0_2.o (be_ HB.o));(case side4=>exact HC0_2.o);(case side5=>exact ca_ (by repeat((with_reducible exact HR140_0.o))));(case side6=>exact HC140_0.o);rintro e w158 ⟨rfl,hb⟩;have HS6_:=(hb.cell (World.block_lt_of_cell? _ _ (hHeld.2.2.2.2.2.2))).trans (hHeld.2.2.2.2.2.2);refine⟨_,rfl,?_⟩;replace O_11:=bR_ O_11 hb;replace O_14:=bN_ O_14 hb;replace O_102001:=bV_ O_102001 hb;replace O_134000:=bR_ O_134000 hb;replace O_134002:=bR_ O_134002 hb;replace O139:=bN_ O139 hb;replace HL140_0:=bV_ HL140_0 hb;replace Q101:=lb_ Q101 hb;replace Q102:=lb_ Q102 hb;replace Q103:=lb_ Q103 hb;replace Q133:=lb_ Q133 hb;replace HR140_0:=q_ (Kd.C_below (by repeat((with_reducible exact HR140_0.o))) hb);replace HB:=q_ (below_step (be4_ HB.o G101.o G102.o G103.o G133.o) hb);clear hb;refine hK.out _ _ ⟨(blk_cell Q133.o 0).trans rfl,(blk_cell Q133.o 1).trans rfl,(blk_cell Q133.o 2).trans rfl,(blk_cell Q101.o 0).trans rfl,(blk_cell Q101.o 1).trans rfl,(blk_cell Q101.o 2).trans rfl,HS6_⟩ (fun hHeld=>?_);clear hK K;refine no_ (some 160) ?_;refine one_ (i:=8) (N:=some 161) (bb 12 511) rfl rfl (one_of HT_.o (by kernel_rfl)) (by decide) (fun K hK=>?_);refine value_ (w1:=?_) (v:=?_) (by rfl) rfl ?_ ?_;rotate_left 2
            ·go_simp
             constructor
             ·rfl
             ·rfl
            refine hK.out _ _ ⟨(blk_cell (blk_alloc Q133.o _) 0).trans rfl,(blk_cell (blk_alloc Q133.o _) 1).trans rfl,(blk_cell (blk_alloc Q133.o _) 2).trans rfl,(blk_cell (blk_alloc Q101.o _) 0).trans rfl,(blk_cell (blk_alloc Q101.o _) 1).trans rfl,(blk_cell (blk_alloc Q101.o _) 2).trans rfl,(World.cell?_alloc_lt _ _ _ (World.block_lt_of_cell? _ _ (hHeld.2.2.2.2.2.2))).trans (hHeld.2.2.2.2.2.2)⟩ (fun hHeld=>?_);clear hK K;refine no_ (some 161) ?_;refine last_ (i:=9) (N:=some 162) (bb 12 1023) rfl rfl (one_of HT_.o (by kernel_rfl)) (by decide) (fun K hK=>?_);refine Kd.R_append_step (Kd.int .i64) (w0:=w) w.heap.size (by rfl) (.tmp 154) (.tmp 161) 22 2 (.int .i64 0) 8 rfl Try.underlying22 info2 rfl (by decide) (by omega) u134002 x134002_4 t141 [.int .i64 t141] (fun k_=>(w.heap.size≤k_)∧some k_≠(.slice Ao58 t114.length co58:Value).ownBlock) (fun _=>False) rfl rfl ?aP (fun _ hk=>hk.elim) ?aF ?aO ?aB ?aS ?aL ?_;(case aP=>exact rfl);(case aB=>exact(be4_ HB.o G101.o G102.o G103.o G133.o));(case aF=>exact(fun k_ hk=>⟨(Nat.le_trans (below_size (be4_ HB.o G101.o G102.o G103.o G133.o)) hk),Kd.fresh' (Kd.R_lt (ra_ O_134000.o)) k_ hk⟩));(case aO=>exact(ra_ O_134002.o));(case aS=>exact(below_size (be4_ HB.o G101.o G102.o G103.o G133.o)));(case aL=>have:=LMc146.o;omega);intro v143 w159 ho hb hg hat;rw[←Ny142.o]at ho;have O144:=q_ (ho);replace O_11:=q_ (Kd.R_over' (ra_ O_11.o) (Kd.R_typed (ra_ O_134002.o)) (by decide) hg);replace O_14:=q_ (Kd.N_afterv (ok:=(fun k_=>(P0_1_ k_∨w.heap.size≤k_)∧some k_≠(v119:Value).ownBlock∧some k_≠(.slice Ao58 t114.length co58:Value).ownBlock∧some k_≠(.slice Ao153 y137.length co153:Value).ownBlock∧k_≠gb101∧k_≠gb102∧k_≠gb103∧k_≠gb133)) (mN_ O_14 (fun _ hk=>⟨⟨hk.1,⟨hk.2.1,⟨hk.2.2.1,⟨hk.2.2.2.2.1,⟨hk.2.2.2.2.2.1,⟨hk.2.2.2.2.2.2.1,⟨hk.2.2.2.2.2.2.2.1,hk.2.2.2.2.2.2.2.2⟩⟩⟩⟩⟩⟩⟩,hk.2.2.2.1⟩)) hg hat);replace O_102001:=q_ (Kd.V_afterv (ok:=(fun k_=>(P0_1_ k_∨w.heap.size≤k_)∧some k_≠(v119:Value).ownBlock∧some k_≠(.slice (some ad140) x14_5.length co157:Value).ownBlock∧some k_≠(.slice Ao58 t114.length co58:Value).ownBlock∧some k_≠(.slice Ao153 y137.length co153:Value).ownBlock∧k_≠gb101∧k_≠gb102∧k_≠gb103∧k_≠gb133)) (mV_ O_102001 (fun _ hk=>⟨⟨hk.1,⟨hk.2.1,⟨hk.2.2.1,⟨hk.2.2.2.1,⟨hk.2.2.2.2.2.1,⟨hk.2.2.2.2.2.2.1,⟨hk.2.2.2.2.2.2.2.1,⟨hk.2.2.2.2.2.2.2.2.1,hk.2.2.2.2.2.2.2.2.2⟩⟩⟩⟩⟩⟩⟩⟩,hk.2.2.2.2.1⟩)) hg hat);replace O_134000:=q_ (Kd.R_after (ok:=(fun k_=>(w.heap.size≤k_))) (ra_ O_134000.o) hg hat);replace Q101:=bg_ Q101 hg (Kd.R_ne O_134002.o Q101.o (by decide));replace Q102:=bg_ Q102 hg (Kd.R_ne O_134002.o Q102.o (by decide));replace Q103:=bg_ Q103 hg (Kd.R_ne O_134002.o Q103.o (by decide));replace Q133:=bg_ Q133 hg (Kd.R_ne O_134002.o Q133.o (by decide));replace O139:=q_ (Kd.N_afterv (ok:=(fun k_=>(P0_1_ k_∨w.heap.size≤k_)∧some k_≠(v119:Value).ownBlock∧some k_≠(.slice (some ad140) x14_5.length co157:Value).ownBlock∧some k_≠(.slice Ao58 t114.length co58:Value).ownBlock∧k_≠gb101∧k_≠gb102∧k_≠gb103∧k_≠gb133)) (mN_ O139 (fun _ hk=>⟨⟨hk.1,⟨hk.2.1,⟨hk.2.2.1,⟨hk.2.2.2.1,⟨hk.2.2.2.2.2.1,⟨hk.2.2.2.2.2.2.1,⟨hk.2.2.2.2.2.2.2.1,hk.2.2.2.2.2.2.2.2⟩⟩⟩⟩⟩⟩⟩,hk.2.2.2.2.1⟩)) hg hat);replace HL140_0:=q_ (Kd.V_afterv (ok:=(fun k_=>(P0_1_ k_∨w.heap.size≤k_)∧some k_≠(v119:Value).ownBlock∧some k_≠(.slice (some ad140) x14_5.length co157:Value).ownBlock∧some k_≠(.slice Ao58 t114.length co58:Value).ownBlock∧some k_≠(.slice Ao153 y137.length co153:Value).ownBlock∧k_≠gb101∧k_≠gb102∧k_≠gb103∧k_≠gb133)) (mV_ HL140_0 (fun _ hk=>⟨⟨hk.1.1,⟨hk.1.2.1,⟨hk.2,⟨hk.1.2.2.1,⟨hk.1.2.2.2.2.1,⟨hk.1.2.2.2.2.2.1,⟨hk.1.2.2.2.2.2.2.1,⟨hk.1.2.2.2.2.2.2.2.1,hk.1.2.2.2.2.2.2.2.2⟩⟩⟩⟩⟩⟩⟩⟩,hk.1.2.2.2.1⟩)) hg hat);replace HB:=q_ (hb);clear O_134002 ho hb hg hat;obtain⟨Ao160,co160,eo160⟩:=Kd.R_slice O144.o
            (subst eo160)
            refine hK.out _ _ ?_;clear hK K;refine no_ (some 162) ?_;refine pv_ 10 163 2047 HT_.o ?_;refine last_ (i:=11) (N:=none) (bb 12 4095) rfl rfl (one_of HT_.o (by kernel_rfl)) (by decide) (fun K hK=>?_);have hs161:w159.cell? ⟨gb133,2,none⟩=some (u134002):=(blk_cell Q133.o 2).trans rfl;have hfs161:=blk_frozen Q133.o 2;have hns161_0:=N101_133.o;have hns161_1:=N102_133.o;have hns161_2:=N103_133.o;have hms161_0:=N133_101.o;have hms161_1:=N133_102.o;have hms161_2:=N133_103.o;refine skip_ (w1:=?_) (by rfl) rfl ?_ ?_;rotate_left
            ·go_simp
             rfl
            refine hK.out _ _ ?_;clear hK K;refine done_ (done_of HT_.o (by kernel_rfl)) ?_
            try go_wp2
            go_roundg k5
            case measure=>have:=HJ2.o;have:=HK2.o;have:=HK3.o;have:=HK4.o;have:=HK5.o;omega
            case rel=>exact⟨(x14_5),(wrap64 (x16_4+1)),(y137),(y142),(.slice Ao153 y137.length co153),(.slice Ao160 y142.length co160),rs_,H',⟨by have:=HJ2.o;have:=HK2.o;have:=HK3.o;have:=HK4.o;have:=HK5.o;omega⟩,⟨Kd.R_mono (rfR_ (Kd.R_types O_11.o Q133.o (by decide))) (fun _ hk=>hk.1)⟩,⟨Kd.N_mono (rfN_ (Kd.N_mono O_14.o (fun k_ hk=>(⟨hk,hk.1.2.2.2.2.2.2.2⟩:_∧k_≠gb133)))) (fun _ hk=>⟨hk.1.1.1,⟨hk.1.1.2.1,⟨hk.1.1.2.2.1,⟨hk.1.1.2.2.2.1,⟨hk.1.2,⟨hk.1.1.2.2.2.2.1,⟨hk.1.1.2.2.2.2.2.1,⟨hk.1.1.2.2.2.2.2.2.1,hk.1.1.2.2.2.2.2.2.2⟩⟩⟩⟩⟩⟩⟩⟩)⟩,⟨Kd.V_mono (rfV_ (Kd.V_mono O_102001.o (fun k_ hk=>(⟨hk,hk.1.2.2.2.2.2.2.2.2⟩:_∧k_≠gb133)))) (fun _ hk=>⟨hk.1.1.1,⟨hk.1.1.2.1,⟨hk.1.1.2.2.1,⟨hk.1.1.2.2.2.1,⟨hk.1.1.2.2.2.2.1,⟨hk.1.2,⟨hk.1.1.2.2.2.2.2.1,⟨hk.1.1.2.2.2.2.2.2.1,⟨hk.1.1.2.2.2.2.2.2.2.1,hk.1.1.2.2.2.2.2.2.2.2⟩⟩⟩⟩⟩⟩⟩⟩⟩)⟩,⟨Kd.R_mono (rfR_ (Kd.R_types O_134000.o Q133.o (by decide))) (fun _ hk=>⟨hk.1.1,hk.1.2⟩)⟩,⟨Kd.N_mono (rfN_ (Kd.N_mono O139.o (fun k_ hk=>(⟨hk,hk.1.2.2.2.2.2.2.2⟩:_∧k_≠gb133)))) (fun _ hk=>⟨hk.1.1.1,⟨hk.1.1.2.1,⟨hk.1.1.2.2.1,⟨hk.1.1.2.2.2.1,⟨hk.1.2,⟨hk.1.1.2.2.2.2.1,⟨hk.1.1.2.2.2.2.2.1,⟨hk.1.1.2.2.2.2.2.2.1,hk.1.1.2.2.2.2.2.2.2⟩⟩⟩⟩⟩⟩⟩⟩)⟩,⟨Kd.R_mono (rfR_ (Kd.R_types O144.o Q133.o (by decide))) (fun _ hk=>⟨hk.1.1,hk.1.2⟩)⟩,⟨by(with_reducible repeat(first|refine blk_drewN ?_ _|refine blk_drew ?_|refine blk_alloc ?_ _));refine blk_far ?_ N101_133.o _;(with_reducible repeat(first|refine blk_drewN ?_ _|refine blk_drew ?_|refine blk_alloc ?_ _));exact Q101.o⟩,⟨by(with_reducible repeat(first|refine blk_drewN ?_ _|refine blk_drew ?_|refine blk_alloc ?_ _));refine blk_far ?_ N102_133.o _;(with_reducible repeat(first|refine blk_drewN ?_ _|refine blk_drew ?_|refine blk_alloc ?_ _));exact Q102.o⟩,⟨by(with_reducible repeat(first|refine blk_drewN ?_ _|refine blk_drew ?_|refine blk_alloc ?_ _));refine blk_far ?_ N103_133.o _;(with_reducible repeat(first|refine blk_drewN ?_ _|refine blk_drew ?_|refine blk_alloc ?_ _));exact Q103.o⟩,⟨by(with_reducible repeat(first|refine blk_drewN ?_ _|refine blk_drew ?_|refine blk_alloc ?_ _));refine blk_put (cs:=#[.slice Ao58 t114.length co58, .slice Ao153 y137.length co153,u134002]) ?_ 2 _ rfl;(with_reducible repeat(first|refine blk_drewN ?_ _|refine blk_drew ?_|refine blk_alloc ?_ _));exact Q133.o⟩,⟨be4_ HB.o G101.o G102.o G103.o G133.o⟩⟩
           rw[iP c95]at H;have d95:=dt_ c95;clear c95;obtain⟨d96,H⟩:=iq_ H;obtain⟨d97,H⟩:=iq_ H;obtain⟨d98,H⟩:=iq_ H;obtain⟨d99,H⟩:=iq_ H;obtain⟨t147,A100,H⟩:=ob_ H;have H':=q_ H;clear H
           try go_wp2
           replace O_11:=q_ (Kd.R_drew O_11.o);replace O_14:=q_ (Kd.N_drew O_14.o);replace O_17:=q_ (Kd.R_drew O_17.o);replace O_102001:=q_ (Kd.V_drew O_102001.o);replace O_134000:=q_ (Kd.R_drew O_134000.o);replace O_134001:=q_ (Kd.N_drew O_134001.o);replace O_134002:=q_ (Kd.R_drew O_134002.o);replace Q101:=q_ (blk_drew Q101.o);replace Q102:=q_ (blk_drew Q102.o);replace Q103:=q_ (blk_drew Q103.o);replace Q133:=q_ (blk_drew Q133.o);replace HB:=q_ (below_drew1 HB.o);obtain⟨Ao102,co102,eo102⟩:=Kd.N_slice O_14.o
           (subst eo102)
           obtain⟨p145,q145⟩:=pq_ x16_4 (x14_5.length:Int);obtain⟨ad145,A145_0,c145_0,e145,X145_0,hl145_0,hi145_0⟩:=at_L11 (Kd.N_reads' O_14.o).2.2 x16_4 p145 q145;cases e145;obtain⟨ce145,hce145,hMe145,hcc145⟩:=Kd.N_get O_14.o [] x16_4 p145 (by exact q145);obtain⟨ua145_0,uc145_0,rfl,ul145_0,ge145_0⟩:=Kd.FK_slice_open hMe145;have hv145_0:=hcc145 0 _ rfl;rw[Nat.add_zero,show((Kd.slice 4 Kd.bool)).sz=1 from rfl,Nat.mul_one]at hv145_0;replace hv145_0:=Option.some.inj (hv145_0.symm.trans X145_0);injection hv145_0 with hva_ hvn_ hvc_
           rw[hva_]at ge145_0;rw[hvc_]at ul145_0;have HL145_0:=q_ (show Kd.V Kd.bool 4 _ w.heap.size _ _ (rd_L11 x14_5 x16_4)from Kd.V_mk ul145_0 ge145_0);clear hva_ hvn_ hvc_ ge145_0 ul145_0 hcc145 hce145;have HR145_0:=q_ hi145_0;have HC145_0:=q_ hl145_0;clear hi145_0 hl145_0;obtain⟨p145,q145⟩:=et_ p145 q145;obtain⟨Ao103,co103,eo103⟩:=Kd.R_slice O_11.o
           (subst eo103)
           obtain⟨p146,q146⟩:=pq_ x18_5 (x11_3.length:Int);obtain⟨ad146,e146,X146_0⟩:=Kd.at_int (Kd.R_reads' O_11.o).2.2 x18_5 p146 q146;cases e146;obtain⟨p146,q146⟩:=et_ p146 q146;refine start_ (n:=11) (S:=fun w'=>w'.cell? ⟨gb101,0,none⟩=some (.int .i64 a0_0)∧w'.cell? ⟨gb101,1,none⟩=some (.slice A0_1 l0_1.length c0_1)∧w'.cell? ⟨gb101,2,none⟩=some (.slice A0_2 l0_2.length c0_2)∧w'.cell? (ad145.add (x16_4).toNat)=some (.slice A145_0 (rd_L11 x14_5 x16_4).length c145_0)∧w'.cell? (ad146.add (x18_5).toNat)=some (.int .u8 (rd x11_3 x18_5))) (ds:=[]) (bb 11 0) (by kernel_rfl) rfl rfl ⟨(blk_cell Q101.o 0).trans rfl,(blk_cell Q101.o 1).trans rfl,(blk_cell Q101.o 2).trans rfl,X145_0,X146_0⟩ (fun hHeld=>?_);refine with_tabW spec_BuildDfa.tab29 spec_BuildDfa.bits29 (fun HT_ HW_=>?_);generalize wr.drew=w101 at O_11 O_14 O_17 O_102001 O_134000 O_134001 O_134002 Q101 Q102 Q103 Q133 HB HL145_0 HR145_0 X145_0 X146_0 hHeld ⊢;refine pv_ 1 104 2 HT_.o ?_;refine pv_ 2 105 6 HT_.o ?_;refine pv_ 3 106 14 HT_.o ?_;refine pv_ 5 108 46 HT_.o ?_;refine pv_ 6 109 110 HT_.o ?_;refine pv_ 7 110 238 HT_.o ?_;refine tv_ 0 103 239 HT_.o HW_.o hHeld ?_;refine tv_ 4 107 255 HT_.o HW_.o hHeld ?_;refine tv_ 8 111 511 HT_.o HW_.o hHeld ?_;refine one_ (i:=9) (N:=some 112) (bb 11 1023) rfl rfl (one_of HT_.o (by kernel_rfl)) (by decide) (fun K hK=>?_);refine gs_ Try.func78 #[.agg #[.int .i64 a0_0, .slice A0_1 l0_1.length c0_1, .slice A0_2 l0_2.length c0_2], .slice A145_0 (rd_L11 x14_5 x16_4).length c145_0, .int .u8 (rd x11_3 x18_5)] ?_
           with_reducible refine(spec_l6Step.calls k5 a0_0 _ _ l0_1 _ _ l0_2 _ _ (rd_L11 x14_5 x16_4) (rd x11_3 x18_5) t147 _ ?side1 ?side2 ?side3 ?side4 ?side5 ?side6 A100.o).mono ?_
           (case side1=>exact ca_ (Kd.V_reads' O_102001.o).2.2);(case side2=>exact(Kd.V_reads' O_102001.o).2.1);(case side3=>exact Kd.C_below HR0_2.o (be_ HB.o));(case side4=>exact HC0_2.o);(case side5=>exact ca_ (by repeat((with_reducible exact HR145_0.o))));(case side6=>exact HC145_0.o);rintro e w104 ⟨v148,rfl,ho0,hb⟩;have HS3_:=(hb.cell (World.block_lt_of_cell? _ _ (hHeld.2.2.2.1))).trans (hHeld.2.2.2.1);have HS4_:=(hb.cell (World.block_lt_of_cell? _ _ (hHeld.2.2.2.2))).trans (hHeld.2.2.2.2);refine⟨_,rfl,?_⟩;have O149:=q_ (Kd.R_lower (Kd.R_newM (M:=fun k_=>(w.heap.size≤k_)) ho0 (below_size (be4_ HB.o G101.o G102.o G103.o G133.o)) (fun k_ h_=>h_)) (below_size (be4_ HB.o G101.o G102.o G103.o G133.o)));replace O_11:=bR_ O_11 hb;replace O_14:=eN_ O_14 (Kd.R_base ho0) hb;replace O_17:=bR_ O_17 hb;replace O_102001:=eV_ O_102001 (Kd.R_base ho0) hb;replace O_134000:=bR_ O_134000 hb;replace O_134001:=eN_ O_134001 (Kd.R_base ho0) hb;replace O_134002:=bR_ O_134002 hb;replace HL145_0:=eV_ HL145_0 (Kd.R_base ho0) hb;replace Q101:=lb_ Q101 hb;replace Q102:=lb_ Q102 hb;replace Q103:=lb_ Q103 hb;replace Q133:=lb_ Q133 hb;replace HR145_0:=q_ (Kd.C_below (by repeat((with_reducible exact HR145_0.o))) hb);replace HB:=q_ (below_step (be4_ HB.o G101.o G102.o G103.o G133.o) hb);clear hb;clear ho0;refine hK.out _ _ ⟨(blk_cell Q101.o 0).trans rfl,(blk_cell Q101.o 1).trans rfl,(blk_cell Q101.o 2).trans rfl,HS3_,HS4_⟩ (fun hHeld=>?_);clear hK K;refine no_ (some 112) ?_;refine pv_ 10 19 2047 HT_.o ?_;refine done_ (done_of HT_.o (by kernel_rfl)) ?_
           try go_wp2
           go_loopg [20,21] k5 (fun kq v20 v21 w'=>∃(x20_6:Int) (x21_6:Int),v20= .int .i64 x20_6∧v21= .int .i64 x21_6∧J0 (spec_BuildDfa.l4 kq a1 t115 x11_3 x14_5 x16_4 x17_5 x18_5 t147 x20_6 x21_6 a0_0 l0_1 l0_2 t114 x134001_4 x134002_4=some (r1,r2,r3,r4))∧J0 (kq≤k5)∧J0 (Kd.R (Kd.int .u8) 5 w' w.heap.size (fun k_=>(w.heap.size≤k_)) (.slice (some ad146) x11_3.length co103) x11_3)∧J0 (Kd.N (Kd.slice 4 Kd.bool) 119 w' w.heap.size (fun k_=>(P0_1_ k_∨w.heap.size≤k_)∧some k_≠((.slice (some ad146) x11_3.length co103):Value).ownBlock∧some k_≠(u17:Value).ownBlock∧some k_≠(v148:Value).ownBlock∧some k_≠((.slice Ao58 t114.length co58):Value).ownBlock∧some k_≠(u134001:Value).ownBlock∧some k_≠(u134002:Value).ownBlock∧k_≠gb101∧k_≠gb102∧k_≠gb103∧k_≠gb133) (.slice (some ad145) x14_5.length co102) x14_5)∧J0 (Kd.R (Kd.int .i64) 2 w' w.heap.size (fun k_=>(w.heap.size≤k_)∧some k_≠((.slice Ao58 t114.length co58):Value).ownBlock∧some k_≠(u134002:Value).ownBlock) u17 x17_5)∧J0 (Kd.R Kd.bool 4 w' w.heap.size (fun k_=>(w.heap.size≤k_)) v148 t147)∧J0 (Kd.V k116 116 w' w.heap.size (fun k_=>(P0_1_ k_∨w.heap.size≤k_)∧some k_≠((.slice (some ad146) x11_3.length co103):Value).ownBlock∧some k_≠((.slice (some ad145) x14_5.length co102):Value).ownBlock∧some k_≠(u17:Value).ownBlock∧some k_≠(v148:Value).ownBlock∧some k_≠((.slice Ao58 t114.length co58):Value).ownBlock∧some k_≠(u134001:Value).ownBlock∧some k_≠(u134002:Value).ownBlock∧k_≠gb101∧k_≠gb102∧k_≠gb103∧k_≠gb133) (.slice A0_1 l0_1.length c0_1) l0_1)∧J0 (Kd.R (Kd.int .i64) 2 w' w.heap.size (fun k_=>(w.heap.size≤k_)∧some k_≠(u17:Value).ownBlock∧some k_≠(u134002:Value).ownBlock) (.slice Ao58 t114.length co58) t114)∧J0 (Kd.N (Kd.slice 2 (Kd.int .i64)) 22 w' w.heap.size (fun k_=>(P0_1_ k_∨w.heap.size≤k_)∧some k_≠((.slice (some ad146) x11_3.length co103):Value).ownBlock∧some k_≠((.slice (some ad145) x14_5.length co102):Value).ownBlock∧some k_≠(u17:Value).ownBlock∧some k_≠(v148:Value).ownBlock∧some k_≠((.slice Ao58 t114.length co58):Value).ownBlock∧some k_≠(u134002:Value).ownBlock∧k_≠gb101∧k_≠gb102∧k_≠gb103∧k_≠gb133) u134001 x134001_4)∧J0 (Kd.R (Kd.int .i64) 2 w' w.heap.size (fun k_=>(w.heap.size≤k_)∧some k_≠(u17:Value).ownBlock∧some k_≠((.slice Ao58 t114.length co58):Value).ownBlock) u134002 x134002_4)∧J0 (w'.heap[gb101]? =some (.cells #[.int .i64 a0_0,(.slice A0_1 l0_1.length c0_1),(.slice A0_2 l0_2.length c0_2)] 60 (0,0)))∧J0 (w'.heap[gb102]? =some (.cells #[(.slice none 0 0),(.slice none 0 0),(.slice none 0 0)] 32 (0,0)))∧J0 (w'.heap[gb103]? =some (.cells #[(.slice none 0 0),(.slice none 0 0),(.slice none 0 0)] 32 (0,0)))∧J0 (w'.heap[gb133]? =some (.cells #[(.slice Ao58 t114.length co58),u134001,u134002] 32 (0,0)))∧J0 (Kd.C Kd.bool w' A145_0 (rd_L11 x14_5 x16_4).length (rd_L11 x14_5 x16_4))∧J0 (Below w.heap.size w w'))
           case atStart=>exact⟨((-1)),(0),rs_,rs_,H',⟨Nat.le_refl _⟩,⟨ra_ O_11.o⟩,⟨mN_ O_14 (fun _ hk=>⟨hk.1.1,⟨hk.1.2.1,⟨hk.1.2.2.1,⟨hk.2,⟨hk.1.2.2.2.1,⟨hk.1.2.2.2.2.1,⟨hk.1.2.2.2.2.2.1,⟨hk.1.2.2.2.2.2.2.1,⟨hk.1.2.2.2.2.2.2.2.1,⟨hk.1.2.2.2.2.2.2.2.2.1,hk.1.2.2.2.2.2.2.2.2.2⟩⟩⟩⟩⟩⟩⟩⟩⟩⟩)⟩,⟨ra_ O_17.o⟩,⟨mR_ O149 (fun _ hk=>hk.1)⟩,⟨mV_ O_102001 (fun _ hk=>⟨hk.1.1,⟨hk.1.2.1,⟨hk.1.2.2.1,⟨hk.1.2.2.2.1,⟨hk.2,⟨hk.1.2.2.2.2.1,⟨hk.1.2.2.2.2.2.1,⟨hk.1.2.2.2.2.2.2.1,⟨hk.1.2.2.2.2.2.2.2.1,⟨hk.1.2.2.2.2.2.2.2.2.1,⟨hk.1.2.2.2.2.2.2.2.2.2.1,hk.1.2.2.2.2.2.2.2.2.2.2⟩⟩⟩⟩⟩⟩⟩⟩⟩⟩⟩)⟩,⟨ra_ O_134000.o⟩,⟨mN_ O_134001 (fun _ hk=>⟨hk.1.1,⟨hk.1.2.1,⟨hk.1.2.2.1,⟨hk.1.2.2.2.1,⟨hk.2,⟨hk.1.2.2.2.2.1,⟨hk.1.2.2.2.2.2.1,⟨hk.1.2.2.2.2.2.2.1,⟨hk.1.2.2.2.2.2.2.2.1,⟨hk.1.2.2.2.2.2.2.2.2.1,hk.1.2.2.2.2.2.2.2.2.2⟩⟩⟩⟩⟩⟩⟩⟩⟩⟩)⟩,⟨ra_ O_134002.o⟩,⟨bk_ Q101.o⟩,⟨bk_ Q102.o⟩,⟨bk_ Q103.o⟩,⟨bk_ Q133.o⟩,⟨by repeat((with_reducible exact HR145_0.o))⟩,⟨be4_ HB.o G101.o G102.o G103.o G133.o⟩⟩
           case round=>
            clear H';clear d95 d96 d97 d98 d99 X145_0 X146_0 p145 p146 q145 q146;obtain⟨x20_6,x21_6,rfl,rfl,HA,HK6,O_11,O_14,O_17,O_19,O_102001,O_134000,O_134001,O_134002,Q101,Q102,Q103,Q133,HR145_0,HB⟩:=hrel;cases gk with
            |zero=>exact absurd HA.o (by simp[spec_BuildDfa.l4])
            | succ k6=>
             have H:=HA.o;clear HA;simp only[spec_BuildDfa.l4]at H;have HC105:=q_ H;clear H;go_upto_region 32 with(fail)
             go_cut [120] (fun v120 wc=>∃(kq:Nat) (x120_104:Bool),v120= .bool x120_104∧J0 (spec_BuildDfa.j6 kq a1 t115 x11_3 x14_5 x16_4 x17_5 x18_5 t147 x20_6 x21_6 x120_104 a0_0 l0_1 l0_2 t114 x134001_4 x134002_4=some (r1,r2,r3,r4))∧J0 (kq≤k6)∧J0 (Kd.R (Kd.int .u8) 5 wc w.heap.size (fun k_=>(w.heap.size≤k_)) (.slice (some ad146) x11_3.length co103) x11_3)∧J0 (Kd.N (Kd.slice 4 Kd.bool) 119 wc w.heap.size (fun k_=>(P0_1_ k_∨w.heap.size≤k_)∧some k_≠((.slice (some ad146) x11_3.length co103):Value).ownBlock∧some k_≠(u17:Value).ownBlock∧some k_≠(v148:Value).ownBlock∧some k_≠((.slice Ao58 t114.length co58):Value).ownBlock∧some k_≠(u134001:Value).ownBlock∧some k_≠(u134002:Value).ownBlock∧k_≠gb101∧k_≠gb102∧k_≠gb103∧k_≠gb133) (.slice (some ad145) x14_5.length co102) x14_5)∧J0 (Kd.R (Kd.int .i64) 2 wc w.heap.size (fun k_=>(w.heap.size≤k_)∧some k_≠((.slice Ao58 t114.length co58):Value).ownBlock∧some k_≠(u134002:Value).ownBlock) u17 x17_5)∧J0 (Kd.R Kd.bool 4 wc w.heap.size (fun k_=>(w.heap.size≤k_)) v148 t147)∧J0 (Kd.V k116 116 wc w.heap.size (fun k_=>(P0_1_ k_∨w.heap.size≤k_)∧some k_≠((.slice (some ad146) x11_3.length co103):Value).ownBlock∧some k_≠((.slice (some ad145) x14_5.length co102):Value).ownBlock∧some k_≠(u17:Value).ownBlock∧some k_≠(v148:Value).ownBlock∧some k_≠((.slice Ao58 t114.length co58):Value).ownBlock∧some k_≠(u134001:Value).ownBlock∧some k_≠(u134002:Value).ownBlock∧k_≠gb101∧k_≠gb102∧k_≠gb103∧k_≠gb133) (.slice A0_1 l0_1.length c0_1) l0_1)∧J0 (Kd.R (Kd.int .i64) 2 wc w.heap.size (fun k_=>(w.heap.size≤k_)∧some k_≠(u17:Value).ownBlock∧some k_≠(u134002:Value).ownBlock) (.slice Ao58 t114.length co58) t114)∧J0 (Kd.N (Kd.slice 2 (Kd.int .i64)) 22 wc w.heap.size (fun k_=>(P0_1_ k_∨w.heap.size≤k_)∧some k_≠((.slice (some ad146) x11_3.length co103):Value).ownBlock∧some k_≠((.slice (some ad145) x14_5.length co102):Value).ownBlock∧some k_≠(u17:Value).ownBlock∧some k_≠(v148:Value).ownBlock∧some k_≠((.slice Ao58 t114.length co58):Value).ownBlock∧some k_≠(u134002:Value).ownBlock∧k_≠gb101∧k_≠gb102∧k_≠gb103∧k_≠gb133) u134001 x134001_4)∧J0 (Kd.R (Kd.int .i64) 2 wc w.heap.size (fun k_=>(w.heap.size≤k_)∧some k_≠(u17:Value).ownBlock∧some k_≠((.slice Ao58 t114.length co58):Value).ownBlock) u134002 x134002_4)∧J0 (wc.heap[gb101]? =some (.cells #[.int .i64 a0_0,(.slice A0_1 l0_1.length c0_1),(.slice A0_2 l0_2.length c0_2)] 60 (0,0)))∧J0 (wc.heap[gb102]? =some (.cells #[(.slice none 0 0),(.slice none 0 0),(.slice none 0 0)] 32 (0,0)))∧J0 (wc.heap[gb103]? =some (.cells #[(.slice none 0 0),(.slice none 0 0),(.slice none 0 0)] 32 (0,0)))∧J0 (wc.heap[gb133]? =some (.cells #[(.slice Ao58 t114.length co58),u134001,u134002] 32 (0,0)))∧J0 (Kd.C Kd.bool wc A145_0 (rd_L11 x14_5 x16_4).length (rd_L11 x14_5 x16_4))∧J0 (Below w.heap.size w wc))
             case first=>
              have H:=HC105.o;clear HC105;by_cases c106:x21_6<(x14_5.length:Int);rotate_left
              ·rw[iN c106]at H;have d106:=df_ c106;clear c106
               (skip)
               have H':=q_ H;clear H;go_wp2;go_meet
               case rel=>exact⟨_,(false),rs_,H',⟨by have:=HJ2.o;have:=HK2.o;have:=HK3.o;have:=HK4.o;have:=HK5.o;have:=HK6.o;first|omega|exact Nat.le_refl _⟩,⟨ra_ O_11.o⟩,⟨na_ O_14.o⟩,⟨ra_ O_17.o⟩,⟨ra_ O_19.o⟩,⟨va_ O_102001.o⟩,⟨ra_ O_134000.o⟩,⟨na_ O_134001.o⟩,⟨ra_ O_134002.o⟩,⟨bk_ Q101.o⟩,⟨bk_ Q102.o⟩,⟨bk_ Q103.o⟩,⟨bk_ Q133.o⟩,⟨by repeat((with_reducible exact HR145_0.o))⟩,⟨be4_ HB.o G101.o G102.o G103.o G133.o⟩⟩
              rw[iP c106]at H;have d106:=dt_ c106;clear c106
              (skip)
              have H':=q_ H;clear H;go_wp2;go_meet
              case rel=>exact⟨_,(decide (x20_6<0)),rs_,H',⟨by have:=HJ2.o;have:=HK2.o;have:=HK3.o;have:=HK4.o;have:=HK5.o;have:=HK6.o;first|omega|exact Nat.le_refl _⟩,⟨ra_ O_11.o⟩,⟨na_ O_14.o⟩,⟨ra_ O_17.o⟩,⟨ra_ O_19.o⟩,⟨va_ O_102001.o⟩,⟨ra_ O_134000.o⟩,⟨na_ O_134001.o⟩,⟨ra_ O_134002.o⟩,⟨bk_ Q101.o⟩,⟨bk_ Q102.o⟩,⟨bk_ Q103.o⟩,⟨bk_ Q133.o⟩,⟨by repeat((with_reducible exact HR145_0.o))⟩,⟨be4_ HB.o G101.o G102.o G103.o G133.o⟩⟩
             case rest=>
              clear HC105;obtain⟨kq,x120_104,rfl,HA,HJ104,O_11,O_14,O_17,O_19,O_102001,O_134000,O_134001,O_134002,Q101,Q102,Q103,Q133,HR145_0,HB⟩:=hcut;cases kq with
              |zero=>exact absurd HA.o (by simp[spec_BuildDfa.j6])
              | succ kj104=>
               have H:=HA.o;clear HA;simp only[spec_BuildDfa.j6]at H;by_cases c107:x120_104=true
               ·subst c107;rw[iP rfl]at H;obtain⟨d108,H⟩:=iq_ H;obtain⟨d109,H⟩:=iq_ H;obtain⟨t151,A110,H⟩:=ob_ H;by_cases c111:t151=true
                ·subst c111;rw[iP rfl]at H;have H':=q_ H;clear H;obtain⟨p150,q150⟩:=pq_ x21_6 (x14_5.length:Int);obtain⟨ad150,A150_0,c150_0,e150,X150_0,hl150_0,hi150_0⟩:=at_L11 (Kd.N_reads' O_14.o).2.2 x21_6 p150 q150;obtain rfl:ad145=ad150:=(by injection e150);obtain⟨ce150,hce150,hMe150,hcc150⟩:=Kd.N_get O_14.o [] x21_6 p150 (by exact q150);obtain⟨ua150_0,uc150_0,rfl,ul150_0,ge150_0⟩:=Kd.FK_slice_open hMe150;have hv150_0:=hcc150 0 _ rfl;rw[Nat.add_zero,show((Kd.slice 4 Kd.bool)).sz=1 from rfl,Nat.mul_one]at hv150_0;replace hv150_0:=Option.some.inj (hv150_0.symm.trans X150_0)
                 injection hv150_0 with hva_ hvn_ hvc_
                 rw[hva_]at ge150_0;rw[hvc_]at ul150_0;have HL150_0:=q_ (show Kd.V Kd.bool 4 _ w.heap.size _ _ (rd_L11 x14_5 x21_6)from Kd.V_mk ul150_0 ge150_0);clear hva_ hvn_ hvc_ ge150_0 ul150_0 hcc150 hce150;have HR150_0:=q_ hi150_0;have HC150_0:=q_ hl150_0;clear hi150_0 hl150_0;obtain⟨p150,q150⟩:=et_ p150 q150;obtain⟨Ao112,co112,eo112⟩:=Kd.R_slice O_19.o;subst eo112
                 go_wp2_with(((with_reducible refine gate_callee (f:=79) rfl ?_);refine gl_ (some 128) rfl rfl Try.func79 #[.slice A150_0 (rd_L11 x14_5 x21_6).length c150_0, .slice Ao112 t147.length co112] ?_;(with_reducible refine(spec_l7SameMarks.calls kj104 _ _ (rd_L11 x14_5 x21_6) _ _ t147 true _ ?side1 ?side2 ?side3 ?side4 A110.o).mono ?_);(case side1=>exact ca_ (by repeat((with_reducible exact HR150_0.o))));(case side2=>exact HC150_0.o);(case side3=>exact ca_ (Kd.R_reads' O_19.o).2.2);(case side4=>exact(Kd.R_reads' O_19.o).2.1);rintro e w' ⟨rfl,⟨nd,rfl⟩⟩;refine⟨_,rfl,?_⟩))
                 go_roundg kj104
                 case measure=>have:=HJ2.o;have:=HK2.o;have:=HK3.o;have:=HK4.o;have:=HK5.o;have:=HK6.o;have:=HJ104.o;omega
                 case rel=>exact⟨(x21_6),(wrap64 (x21_6+1)),rs_,rs_,H',⟨by have:=HJ2.o;have:=HK2.o;have:=HK3.o;have:=HK4.o;have:=HK5.o;have:=HK6.o;have:=HJ104.o;omega⟩,⟨ra_ O_11.o⟩,⟨na_ O_14.o⟩,⟨ra_ O_17.o⟩,⟨ra_ O_19.o⟩,⟨va_ O_102001.o⟩,⟨ra_ O_134000.o⟩,⟨na_ O_134001.o⟩,⟨ra_ O_134002.o⟩,⟨bk_ Q101.o⟩,⟨bk_ Q102.o⟩,⟨bk_ Q103.o⟩,⟨bk_ Q133.o⟩,⟨by repeat(first| (with_reducible exact HR145_0.o)| (with_reducible refine Kd.C_drewN ?_ _))⟩,⟨be4_ HB.o G101.o G102.o G103.o G133.o⟩⟩
                replace c111:=Bool.eq_false_iff.mpr c111;subst c111;rw[iN nft_]at H;have H':=q_ H;clear H;obtain⟨p150,q150⟩:=pq_ x21_6 (x14_5.length:Int);obtain⟨ad150,A150_0,c150_0,e150,X150_0,hl150_0,hi150_0⟩:=at_L11 (Kd.N_reads' O_14.o).2.2 x21_6 p150 q150;obtain rfl:ad145=ad150:=(by injection e150);obtain⟨ce150,hce150,hMe150,hcc150⟩:=Kd.N_get O_14.o [] x21_6 p150 (by exact q150);obtain⟨ua150_0,uc150_0,rfl,ul150_0,ge150_0⟩:=Kd.FK_slice_open hMe150;have hv150_0:=hcc150 0 _ rfl;rw[Nat.add_zero,show((Kd.slice 4 Kd.bool)).sz=1 from rfl,Nat.mul_one]at hv150_0;replace hv150_0:=Option.some.inj (hv150_0.symm.trans X150_0);injection hv150_0 with hva_ hvn_ hvc_
                rw[hva_]at ge150_0;rw[hvc_]at ul150_0;have HL150_0:=q_ (show Kd.V Kd.bool 4 _ w.heap.size _ _ (rd_L11 x14_5 x21_6)from Kd.V_mk ul150_0 ge150_0);clear hva_ hvn_ hvc_ ge150_0 ul150_0 hcc150 hce150;have HR150_0:=q_ hi150_0;have HC150_0:=q_ hl150_0;clear hi150_0 hl150_0;obtain⟨p150,q150⟩:=et_ p150 q150;obtain⟨Ao113,co113,eo113⟩:=Kd.R_slice O_19.o;subst eo113
                go_wp2_with(((with_reducible refine gate_callee (f:=79) rfl ?_);refine gl_ (some 128) rfl rfl Try.func79 #[.slice A150_0 (rd_L11 x14_5 x21_6).length c150_0, .slice Ao113 t147.length co113] ?_;(with_reducible refine(spec_l7SameMarks.calls kj104 _ _ (rd_L11 x14_5 x21_6) _ _ t147 false _ ?side1 ?side2 ?side3 ?side4 A110.o).mono ?_);(case side1=>exact ca_ (by repeat((with_reducible exact HR150_0.o))));(case side2=>exact HC150_0.o);(case side3=>exact ca_ (Kd.R_reads' O_19.o).2.2);(case side4=>exact(Kd.R_reads' O_19.o).2.1);rintro e w' ⟨rfl,⟨nd,rfl⟩⟩;refine⟨_,rfl,?_⟩))
                go_roundg kj104
                case measure=>have:=HJ2.o;have:=HK2.o;have:=HK3.o;have:=HK4.o;have:=HK5.o;have:=HK6.o;have:=HJ104.o;omega
                case rel=>exact⟨(x20_6),(wrap64 (x21_6+1)),rs_,rs_,H',⟨by have:=HJ2.o;have:=HK2.o;have:=HK3.o;have:=HK4.o;have:=HK5.o;have:=HK6.o;have:=HJ104.o;omega⟩,⟨ra_ O_11.o⟩,⟨na_ O_14.o⟩,⟨ra_ O_17.o⟩,⟨ra_ O_19.o⟩,⟨va_ O_102001.o⟩,⟨ra_ O_134000.o⟩,⟨na_ O_134001.o⟩,⟨ra_ O_134002.o⟩,⟨bk_ Q101.o⟩,⟨bk_ Q102.o⟩,⟨bk_ Q103.o⟩,⟨bk_ Q133.o⟩,⟨by repeat(first| (with_reducible exact HR145_0.o)| (with_reducible refine Kd.C_drewN ?_ _))⟩,⟨be4_ HB.o G101.o G102.o G103.o G133.o⟩⟩
               replace c107:=Bool.eq_false_iff.mpr c107;subst c107;rw[iN nft_]at H;by_cases c114:x20_6<0;rotate_left
               ·rw[iN c114]at H;have d114:=df_ c114;clear c114;by_cases c132:(x14_5.length:Int)>a1
                ·rw[iP c132]at H;have d132:decide (a1<(x14_5.length:Int))=true:=dt_ c132;clear c132;simp only[Option.some.injEq,Prod.mk.injEq]at H;obtain⟨rfl,rfl,rfl,rfl⟩:=H;have hnb133:=N103_101.o;have hnc133:=N101_103.o;have hnb134:=N103_102.o;have hnc134:=N102_103.o;have hnb135:=N103_133.o;have hnc135:=N133_103.o;obtain⟨z136_0,z136_1,z136_2,y136_0,y136_1,y136_2⟩:=d3_ Q103;have hnb137:=N102_101.o;have hnc137:=N101_102.o;have hnb138:=N102_133.o;have hnc138:=N133_102.o;obtain⟨z139_0,z139_1,z139_2,y139_0,y139_1,y139_2⟩:=d3_ Q102;go_wp2
                 refine bodyPost_ret (results_ct rfl _ _ gb102 32 #[.slice none 0 0, .slice none 0 0, .slice none 0 0] (0,0) _ rfl (bp_ Q102) Try.underlying32 rfl (by kernel_rfl)) rfl ?_;exact⟨_,_,_,rt_,by exact Kd.R_nil _ _ _ _ _,by exact Kd.N_nil _ _ _ _ _,by exact Kd.R_nil _ _ _ _ _,be4_ HB.o G101.o G102.o G103.o G133.o⟩
                rw[iN c132]at H;have d132:decide (a1<(x14_5.length:Int))=false:=df_ c132;clear c132;obtain⟨c140,H⟩:=ip_ H;have LMc140:=q_ c140;clear c140;generalize hy158:(x17_5++ [x20_6]:List Int)=y158 at H;have Ny158:=q_ hy158.symm;clear hy158;have H':=q_ H;clear H
                go_wp2_with(((with_reducible refine gate_builtin (b:= .append) (xs:=#[.tmp 143, .tmp 145]) rfl ?_);at_builtin;refine Kd.R_append (Kd.int .i64) (w0:=w) w.heap.size rfl (.tmp 143) (.tmp 145) 22 2 (.int .i64 0) 8 rfl Try.underlying22 info2 rfl (by decide) (by omega) u17 x17_5 x20_6 [.int .i64 x20_6] (fun k_=>(w.heap.size≤k_)∧some k_≠(.slice Ao58 t114.length co58:Value).ownBlock∧some k_≠(u134002:Value).ownBlock) (fun _=>False) rfl rfl ?aP (fun _ hk=>hk.elim) ?aF ?aO ?aB ?aS ?aL ?_;(case aP=>exact rfl);(case aB=>exact(be4_ HB.o G101.o G102.o G103.o G133.o));(case aF=>exact(fun k_ hk=>⟨(Nat.le_trans (below_size (be4_ HB.o G101.o G102.o G103.o G133.o)) hk),Kd.fresh' (Kd.R_lt (ra_ O_134000.o)) k_ hk,Kd.fresh' (Kd.R_lt (ra_ O_134002.o)) k_ hk⟩));(case aO=>exact(ra_ O_17.o));(case aS=>exact(below_size (be4_ HB.o G101.o G102.o G103.o G133.o)));(case aL=>have:=LMc140.o;omega);intro v159 w141 ho hb hg hat;rw[←Ny158.o]at ho;have O160:=q_ (ho);replace O_11:=q_ (Kd.R_over' (ra_ O_11.o) (Kd.R_typed (ra_ O_17.o)) (by decide) hg);replace O_14:=q_ (Kd.N_afterv (ok:=(fun k_=>(P0_1_ k_∨w.heap.size≤k_)∧some k_≠(.slice (some ad146) x11_3.length co103:Value).ownBlock∧some k_≠(v148:Value).ownBlock∧some k_≠(.slice Ao58 t114.length co58:Value).ownBlock∧some k_≠(u134001:Value).ownBlock∧some k_≠(u134002:Value).ownBlock∧k_≠gb101∧k_≠gb102∧k_≠gb103∧k_≠gb133)) (mN_ O_14 (fun _ hk=>⟨⟨hk.1,⟨hk.2.1,⟨hk.2.2.2.1,⟨hk.2.2.2.2.1,⟨hk.2.2.2.2.2.1,⟨hk.2.2.2.2.2.2.1,⟨hk.2.2.2.2.2.2.2.1,⟨hk.2.2.2.2.2.2.2.2.1,⟨hk.2.2.2.2.2.2.2.2.2.1,hk.2.2.2.2.2.2.2.2.2.2⟩⟩⟩⟩⟩⟩⟩⟩⟩,hk.2.2.1⟩)) hg hat);replace O_19:=q_ (Kd.R_over' (ra_ O_19.o) (Kd.R_typed (ra_ O_17.o)) (by decide) hg);replace O_102001:=q_ (Kd.V_afterv (ok:=(fun k_=>(P0_1_ k_∨w.heap.size≤k_)∧some k_≠(.slice (some ad146) x11_3.length co103:Value).ownBlock∧some k_≠(.slice (some ad145) x14_5.length co102:Value).ownBlock∧some k_≠(v148:Value).ownBlock∧some k_≠(.slice Ao58 t114.length co58:Value).ownBlock∧some k_≠(u134001:Value).ownBlock∧some k_≠(u134002:Value).ownBlock∧k_≠gb101∧k_≠gb102∧k_≠gb103∧k_≠gb133)) (mV_ O_102001 (fun _ hk=>⟨⟨hk.1,⟨hk.2.1,⟨hk.2.2.1,⟨hk.2.2.2.2.1,⟨hk.2.2.2.2.2.1,⟨hk.2.2.2.2.2.2.1,⟨hk.2.2.2.2.2.2.2.1,⟨hk.2.2.2.2.2.2.2.2.1,⟨hk.2.2.2.2.2.2.2.2.2.1,⟨hk.2.2.2.2.2.2.2.2.2.2.1,hk.2.2.2.2.2.2.2.2.2.2.2⟩⟩⟩⟩⟩⟩⟩⟩⟩⟩,hk.2.2.2.1⟩)) hg hat);replace O_134000:=q_ (Kd.R_after (ok:=(fun k_=>(w.heap.size≤k_)∧some k_≠(u134002:Value).ownBlock)) (mR_ O_134000 (fun _ hk=>⟨⟨hk.1,hk.2.2⟩,hk.2.1⟩)) hg hat);replace O_134001:=q_ (Kd.N_afterv (ok:=(fun k_=>(P0_1_ k_∨w.heap.size≤k_)∧some k_≠(.slice (some ad146) x11_3.length co103:Value).ownBlock∧some k_≠(.slice (some ad145) x14_5.length co102:Value).ownBlock∧some k_≠(v148:Value).ownBlock∧some k_≠(.slice Ao58 t114.length co58:Value).ownBlock∧some k_≠(u134002:Value).ownBlock∧k_≠gb101∧k_≠gb102∧k_≠gb103∧k_≠gb133)) (mN_ O_134001 (fun _ hk=>⟨⟨hk.1,⟨hk.2.1,⟨hk.2.2.1,⟨hk.2.2.2.2.1,⟨hk.2.2.2.2.2.1,⟨hk.2.2.2.2.2.2.1,⟨hk.2.2.2.2.2.2.2.1,⟨hk.2.2.2.2.2.2.2.2.1,⟨hk.2.2.2.2.2.2.2.2.2.1,hk.2.2.2.2.2.2.2.2.2.2⟩⟩⟩⟩⟩⟩⟩⟩⟩,hk.2.2.2.1⟩)) hg hat);replace O_134002:=q_ (Kd.R_after (ok:=(fun k_=>(w.heap.size≤k_)∧some k_≠(.slice Ao58 t114.length co58:Value).ownBlock)) (mR_ O_134002 (fun _ hk=>⟨⟨hk.1,hk.2.2⟩,hk.2.1⟩)) hg hat);replace Q101:=bg_ Q101 hg (Kd.R_ne O_17.o Q101.o (by decide));replace Q102:=bg_ Q102 hg (Kd.R_ne O_17.o Q102.o (by decide));replace Q103:=bg_ Q103 hg (Kd.R_ne O_17.o Q103.o (by decide));replace Q133:=bg_ Q133 hg (Kd.R_ne O_17.o Q133.o (by decide));replace HB:=q_ (hb);clear O_17 ho hb hg hat))
                go_roundg kj104
                case measure=>have:=HJ2.o;have:=HK2.o;have:=HK3.o;have:=HK4.o;have:=HK5.o;have:=HK6.o;have:=HJ104.o;omega
                case rel=>exact⟨(x14_5),(y158),(wrap64 (x18_5+1)),rs_,H',⟨by have:=HJ2.o;have:=HK2.o;have:=HK3.o;have:=HK4.o;have:=HK5.o;have:=HK6.o;have:=HJ104.o;omega⟩,⟨ra_ O_11.o⟩,⟨mN_ O_14 (fun _ hk=>⟨hk.1.1,⟨hk.1.2.1,⟨hk.2,⟨hk.1.2.2.2.1,⟨hk.1.2.2.2.2.1,⟨hk.1.2.2.2.2.2.1,⟨hk.1.2.2.2.2.2.2.1,⟨hk.1.2.2.2.2.2.2.2.1,⟨hk.1.2.2.2.2.2.2.2.2.1,hk.1.2.2.2.2.2.2.2.2.2⟩⟩⟩⟩⟩⟩⟩⟩⟩)⟩,⟨ra_ O160.o⟩,⟨mV_ O_102001 (fun _ hk=>⟨hk.1.1,⟨hk.1.2.1,⟨hk.1.2.2.1,⟨hk.2,⟨hk.1.2.2.2.2.1,⟨hk.1.2.2.2.2.2.1,⟨hk.1.2.2.2.2.2.2.1,⟨hk.1.2.2.2.2.2.2.2.1,⟨hk.1.2.2.2.2.2.2.2.2.1,⟨hk.1.2.2.2.2.2.2.2.2.2.1,hk.1.2.2.2.2.2.2.2.2.2.2⟩⟩⟩⟩⟩⟩⟩⟩⟩⟩)⟩,⟨mR_ O_134000 (fun _ hk=>⟨hk.1.1,⟨hk.2,hk.1.2⟩⟩)⟩,⟨mN_ O_134001 (fun _ hk=>⟨hk.1.1,⟨hk.1.2.1,⟨hk.1.2.2.1,⟨hk.2,⟨hk.1.2.2.2.2.1,⟨hk.1.2.2.2.2.2.1,⟨hk.1.2.2.2.2.2.2.1,⟨hk.1.2.2.2.2.2.2.2.1,⟨hk.1.2.2.2.2.2.2.2.2.1,hk.1.2.2.2.2.2.2.2.2.2⟩⟩⟩⟩⟩⟩⟩⟩⟩)⟩,⟨mR_ O_134002 (fun _ hk=>⟨hk.1.1,⟨hk.2,hk.1.2⟩⟩)⟩,⟨bk_ Q101.o⟩,⟨bk_ Q102.o⟩,⟨bk_ Q103.o⟩,⟨bk_ Q133.o⟩,⟨be4_ HB.o G101.o G102.o G103.o G133.o⟩⟩
               rw[iP c114]at H;have d114:=dt_ c114;clear c114;obtain⟨c115,H⟩:=ip_ H;have LMc115:=q_ c115;clear c115;obtain⟨y152,Ny152,H⟩:=bs_ H;by_cases c116:(y152.length:Int)>a1
               ·rw[iP c116]at H;have d116:decide (a1<(y152.length:Int))=true:=dt_ c116;clear c116;simp only[Option.some.injEq,Prod.mk.injEq]at H;obtain⟨rfl,rfl,rfl,rfl⟩:=H;obtain⟨Ao118,co118,eo118⟩:=Kd.R_slice O_19.o;subst eo118
                go_wp2_with(((with_reducible refine gate_builtin (b:= .append) (xs:=#[.tmp 134, .tmp 136]) rfl ?_);at_builtin;refine Kd.N_append (Kd.slice 4 Kd.bool) (w0:=w) w.heap.size rfl (.tmp 134) (.tmp 136) 121 119 (.slice none 0 0) 24 rfl Try.underlying121 info119 rfl (by decide) (by omega) (.slice (some ad145) x14_5.length co102) x14_5 t147 [.slice Ao118 t147.length co118] (fun k_=>(P0_1_ k_∨w.heap.size≤k_)∧some k_≠(.slice (some ad146) x11_3.length co103:Value).ownBlock∧some k_≠(u17:Value).ownBlock∧some k_≠(.slice Ao58 t114.length co58:Value).ownBlock∧some k_≠(u134001:Value).ownBlock∧some k_≠(u134002:Value).ownBlock∧k_≠gb101∧k_≠gb102∧k_≠gb103∧k_≠gb133) (fun k_=>((fun k_=>(P0_1_ k_∨w.heap.size≤k_)∧some k_≠(.slice (some ad146) x11_3.length co103:Value).ownBlock∧some k_≠(u17:Value).ownBlock∧some k_≠(.slice Ao58 t114.length co58:Value).ownBlock∧some k_≠(u134001:Value).ownBlock∧some k_≠(u134002:Value).ownBlock∧k_≠gb101∧k_≠gb102∧k_≠gb103∧k_≠gb133)) k_∧some k_≠(.slice (some ad145) x14_5.length co102:Value).ownBlock) rfl rfl ?aP (fun _ hk=>hk) ?aF ?aO ?aB ?aS ?aL ?_;(case aP=>exact(Kd.FK_slice_mk (Kd.R_reads' (Kd.R_mono (ok':=(fun k_=>((fun k_=>(P0_1_ k_∨w.heap.size≤k_)∧some k_≠(.slice (some ad146) x11_3.length co103:Value).ownBlock∧some k_≠(u17:Value).ownBlock∧some k_≠(.slice Ao58 t114.length co58:Value).ownBlock∧some k_≠(u134001:Value).ownBlock∧some k_≠(u134002:Value).ownBlock∧k_≠gb101∧k_≠gb102∧k_≠gb103∧k_≠gb133)) k_∧some k_≠(.slice (some ad145) x14_5.length co102:Value).ownBlock)) (Kd.R_types (Kd.R_types (Kd.R_types (Kd.R_types (Kd.R_apart' (Kd.R_apart' (Kd.R_apart' (Kd.R_apart' (Kd.R_apart' (Kd.R_apart' (O_19.o) (Kd.R_typed O_11.o) (by decide)) (Kd.R_typed O_17.o) (by decide)) (Kd.R_typed O_134000.o) (by decide)) (Kd.N_typed O_134001.o) (by decide)) (Kd.R_typed O_134002.o) (by decide)) (Kd.N_typed O_14.o) (by decide)) Q101.o (by decide)) Q102.o (by decide)) Q103.o (by decide)) Q133.o (by decide)) (fun k_ hk=>⟨⟨(.inr (hk.1.1.1.1.1.1.1.1.1.1)),⟨hk.1.1.1.1.1.1.1.1.1.2,⟨hk.1.1.1.1.1.1.1.1.2,⟨hk.1.1.1.1.1.1.1.2,⟨hk.1.1.1.1.1.1.2,⟨hk.1.1.1.1.1.2,⟨hk.1.1.1.2,⟨hk.1.1.2,⟨hk.1.2,hk.2⟩⟩⟩⟩⟩⟩⟩⟩⟩,hk.1.1.1.1.2⟩))).2.1 (Kd.R_F (Kd.R_mono (ok':=(fun k_=>((fun k_=>(P0_1_ k_∨w.heap.size≤k_)∧some k_≠(.slice (some ad146) x11_3.length co103:Value).ownBlock∧some k_≠(u17:Value).ownBlock∧some k_≠(.slice Ao58 t114.length co58:Value).ownBlock∧some k_≠(u134001:Value).ownBlock∧some k_≠(u134002:Value).ownBlock∧k_≠gb101∧k_≠gb102∧k_≠gb103∧k_≠gb133)) k_∧some k_≠(.slice (some ad145) x14_5.length co102:Value).ownBlock)) (Kd.R_types (Kd.R_types (Kd.R_types (Kd.R_types (Kd.R_apart' (Kd.R_apart' (Kd.R_apart' (Kd.R_apart' (Kd.R_apart' (Kd.R_apart' (O_19.o) (Kd.R_typed O_11.o) (by decide)) (Kd.R_typed O_17.o) (by decide)) (Kd.R_typed O_134000.o) (by decide)) (Kd.N_typed O_134001.o) (by decide)) (Kd.R_typed O_134002.o) (by decide)) (Kd.N_typed O_14.o) (by decide)) Q101.o (by decide)) Q102.o (by decide)) Q103.o (by decide)) Q133.o (by decide)) (fun k_ hk=>⟨⟨(.inr (hk.1.1.1.1.1.1.1.1.1.1)),⟨hk.1.1.1.1.1.1.1.1.1.2,⟨hk.1.1.1.1.1.1.1.1.2,⟨hk.1.1.1.1.1.1.1.2,⟨hk.1.1.1.1.1.1.2,⟨hk.1.1.1.1.1.2,⟨hk.1.1.1.2,⟨hk.1.1.2,⟨hk.1.2,hk.2⟩⟩⟩⟩⟩⟩⟩⟩⟩,hk.1.1.1.1.2⟩)))));(case aB=>exact(be4_ HB.o G101.o G102.o G103.o G133.o));(case aF=>exact(fun k_ hk=>⟨(.inr (Nat.le_trans (below_size (be4_ HB.o G101.o G102.o G103.o G133.o)) hk)),Kd.fresh' (Kd.R_lt (ra_ O_11.o)) k_ hk,Kd.fresh' (Kd.R_lt (ra_ O_17.o)) k_ hk,Kd.fresh' (Kd.R_lt (ra_ O_134000.o)) k_ hk,Kd.fresh' (Kd.N_lt (na_ O_134001.o)) k_ hk,Kd.fresh' (Kd.R_lt (ra_ O_134002.o)) k_ hk,fb_ Q101 hk,fb_ Q102 hk,fb_ Q103 hk,fb_ Q133 hk⟩));(case aO=>exact(mN_ O_14 (fun _ hk=>⟨hk.1,⟨hk.2.1,⟨hk.2.2.1,⟨hk.2.2.2.2.1,⟨hk.2.2.2.2.2.1,⟨hk.2.2.2.2.2.2.1,⟨hk.2.2.2.2.2.2.2.1,⟨hk.2.2.2.2.2.2.2.2.1,⟨hk.2.2.2.2.2.2.2.2.2.1,hk.2.2.2.2.2.2.2.2.2.2⟩⟩⟩⟩⟩⟩⟩⟩⟩)));(case aS=>exact(below_size (be4_ HB.o G101.o G102.o G103.o G133.o)));(case aL=>have:=LMc115.o;omega);intro v153 w117 ho hb hg hat;rw[←Ny152.o]at ho;have O154:=q_ (ho);replace O_11:=q_ (Kd.R_over' (ra_ O_11.o) (Kd.N_typed (na_ O_14.o)) (by decide) hg);replace O_17:=q_ (Kd.R_over' (ra_ O_17.o) (Kd.N_typed (na_ O_14.o)) (by decide) hg);replace O_102001:=q_ (Kd.V_afterv (ok:=(fun k_=>(P0_1_ k_∨w.heap.size≤k_)∧some k_≠(.slice (some ad146) x11_3.length co103:Value).ownBlock∧some k_≠(u17:Value).ownBlock∧some k_≠(.slice Ao118 t147.length co118:Value).ownBlock∧some k_≠(.slice Ao58 t114.length co58:Value).ownBlock∧some k_≠(u134001:Value).ownBlock∧some k_≠(u134002:Value).ownBlock∧k_≠gb101∧k_≠gb102∧k_≠gb103∧k_≠gb133)) (mV_ O_102001 (fun _ hk=>⟨⟨hk.1,⟨hk.2.1,⟨hk.2.2.2.1,⟨hk.2.2.2.2.1,⟨hk.2.2.2.2.2.1,⟨hk.2.2.2.2.2.2.1,⟨hk.2.2.2.2.2.2.2.1,⟨hk.2.2.2.2.2.2.2.2.1,⟨hk.2.2.2.2.2.2.2.2.2.1,⟨hk.2.2.2.2.2.2.2.2.2.2.1,hk.2.2.2.2.2.2.2.2.2.2.2⟩⟩⟩⟩⟩⟩⟩⟩⟩⟩,hk.2.2.1⟩)) hg hat);replace O_134000:=q_ (Kd.R_over' (ra_ O_134000.o) (Kd.N_typed (na_ O_14.o)) (by decide) hg);replace O_134001:=q_ (Kd.N_afterv (ok:=(fun k_=>(P0_1_ k_∨w.heap.size≤k_)∧some k_≠(.slice (some ad146) x11_3.length co103:Value).ownBlock∧some k_≠(u17:Value).ownBlock∧some k_≠(.slice Ao118 t147.length co118:Value).ownBlock∧some k_≠(.slice Ao58 t114.length co58:Value).ownBlock∧some k_≠(u134002:Value).ownBlock∧k_≠gb101∧k_≠gb102∧k_≠gb103∧k_≠gb133)) (mN_ O_134001 (fun _ hk=>⟨⟨hk.1,⟨hk.2.1,⟨hk.2.2.2.1,⟨hk.2.2.2.2.1,⟨hk.2.2.2.2.2.1,⟨hk.2.2.2.2.2.2.1,⟨hk.2.2.2.2.2.2.2.1,⟨hk.2.2.2.2.2.2.2.2.1,⟨hk.2.2.2.2.2.2.2.2.2.1,hk.2.2.2.2.2.2.2.2.2.2⟩⟩⟩⟩⟩⟩⟩⟩⟩,hk.2.2.1⟩)) hg hat);replace O_134002:=q_ (Kd.R_over' (ra_ O_134002.o) (Kd.N_typed (na_ O_14.o)) (by decide) hg);replace Q101:=bg_ Q101 hg (Kd.N_ne O_14.o Q101.o (by decide));replace Q102:=bg_ Q102 hg (Kd.N_ne O_14.o Q102.o (by decide));replace Q103:=bg_ Q103 hg (Kd.N_ne O_14.o Q103.o (by decide));replace Q133:=bg_ Q133 hg (Kd.N_ne O_14.o Q133.o (by decide));replace HB:=q_ (hb);clear O_14 O_19 ho hb hg hat;obtain⟨Ao119,co119,eo119⟩:=Kd.N_slice O154.o;subst eo119;have hnb120:=N103_101.o;have hnc120:=N101_103.o;have hnb121:=N103_102.o;have hnc121:=N102_103.o;have hnb122:=N103_133.o;have hnc122:=N133_103.o;obtain⟨z123_0,z123_1,z123_2,y123_0,y123_1,y123_2⟩:=d3_ Q103;have hnb124:=N102_101.o;have hnc124:=N101_102.o;have hnb125:=N102_133.o;have hnc125:=N133_102.o;obtain⟨z126_0,z126_1,z126_2,y126_0,y126_1,y126_2⟩:=d3_ Q102))
                refine bodyPost_ret (results_ct rfl _ _ gb102 32 #[.slice none 0 0, .slice none 0 0, .slice none 0 0] (0,0) _ rfl (bp_ Q102) Try.underlying32 rfl (by kernel_rfl)) rfl ?_;exact⟨_,_,_,rt_,by exact Kd.R_nil _ _ _ _ _,by exact Kd.N_nil _ _ _ _ _,by exact Kd.R_nil _ _ _ _ _,be4_ HB.o G101.o G102.o G103.o G133.o⟩
               rw[iN c116]at H;have d116:decide (a1<(y152.length:Int))=false:=df_ c116;clear c116;obtain⟨c127,H⟩:=ip_ H;have LMc127:=q_ c127;clear c127;generalize hy155:(x17_5++ [(x14_5.length:Int)]:List Int)=y155 at H;have Ny155:=q_ hy155.symm;clear hy155;have H':=q_ H;clear H;obtain⟨Ao129,co129,eo129⟩:=Kd.R_slice O_19.o;subst eo129
               go_wp2_with(first| ((with_reducible refine gate_builtin (b:= .append) (xs:=#[.tmp 134, .tmp 136]) rfl ?_);at_builtin;refine Kd.N_append (Kd.slice 4 Kd.bool) (w0:=w) w.heap.size rfl (.tmp 134) (.tmp 136) 121 119 (.slice none 0 0) 24 rfl Try.underlying121 info119 rfl (by decide) (by omega) (.slice (some ad145) x14_5.length co102) x14_5 t147 [.slice Ao129 t147.length co129] (fun k_=>(P0_1_ k_∨w.heap.size≤k_)∧some k_≠(.slice (some ad146) x11_3.length co103:Value).ownBlock∧some k_≠(u17:Value).ownBlock∧some k_≠(.slice Ao58 t114.length co58:Value).ownBlock∧some k_≠(u134001:Value).ownBlock∧some k_≠(u134002:Value).ownBlock∧k_≠gb101∧k_≠gb102∧k_≠gb103∧k_≠gb133) (fun k_=>((fun k_=>(P0_1_ k_∨w.heap.size≤k_)∧some k_≠(.slice (some ad146) x11_3.length co103:Value).ownBlock∧some k_≠(u17:Value).ownBlock∧some k_≠(.slice Ao58 t114.length co58:Value).ownBlock∧some k_≠(u134001:Value).ownBlock∧some k_≠(u134002:Value).ownBlock∧k_≠gb101∧k_≠gb102∧k_≠gb103∧k_≠gb133)) k_∧some k_≠(.slice (some ad145) x14_5.length co102:Value).ownBlock) rfl rfl ?aP (fun _ hk=>hk) ?aF ?aO ?aB ?aS ?aL ?_;(case aP=>exact(Kd.FK_slice_mk (Kd.R_reads' (Kd.R_mono (ok':=(fun k_=>((fun k_=>(P0_1_ k_∨w.heap.size≤k_)∧some k_≠(.slice (some ad146) x11_3.length co103:Value).ownBlock∧some k_≠(u17:Value).ownBlock∧some k_≠(.slice Ao58 t114.length co58:Value).ownBlock∧some k_≠(u134001:Value).ownBlock∧some k_≠(u134002:Value).ownBlock∧k_≠gb101∧k_≠gb102∧k_≠gb103∧k_≠gb133)) k_∧some k_≠(.slice (some ad145) x14_5.length co102:Value).ownBlock)) (Kd.R_types (Kd.R_types (Kd.R_types (Kd.R_types (Kd.R_apart' (Kd.R_apart' (Kd.R_apart' (Kd.R_apart' (Kd.R_apart' (Kd.R_apart' (O_19.o) (Kd.R_typed O_11.o) (by decide)) (Kd.R_typed O_17.o) (by decide)) (Kd.R_typed O_134000.o) (by decide)) (Kd.N_typed O_134001.o) (by decide)) (Kd.R_typed O_134002.o) (by decide)) (Kd.N_typed O_14.o) (by decide)) Q101.o (by decide)) Q102.o (by decide)) Q103.o (by decide)) Q133.o (by decide)) (fun k_ hk=>⟨⟨(.inr (hk.1.1.1.1.1.1.1.1.1.1)),⟨hk.1.1.1.1.1.1.1.1.1.2,⟨hk.1.1.1.1.1.1.1.1.2,⟨hk.1.1.1.1.1.1.1.2,⟨hk.1.1.1.1.1.1.2,⟨hk.1.1.1.1.1.2,⟨hk.1.1.1.2,⟨hk.1.1.2,⟨hk.1.2,hk.2⟩⟩⟩⟩⟩⟩⟩⟩⟩,hk.1.1.1.1.2⟩))).2.1 (Kd.R_F (Kd.R_mono (ok':=(fun k_=>((fun k_=>(P0_1_ k_∨w.heap.size≤k_)∧some k_≠(.slice (some ad146) x11_3.length co103:Value).ownBlock∧some k_≠(u17:Value).ownBlock∧some k_≠(.slice Ao58 t114.length co58:Value).ownBlock∧some k_≠(u134001:Value).ownBlock∧some k_≠(u134002:Value).ownBlock∧k_≠gb101∧k_≠gb102∧k_≠gb103∧k_≠gb133)) k_∧some k_≠(.slice (some ad145) x14_5.length co102:Value).ownBlock)) (Kd.R_types (Kd.R_types (Kd.R_types (Kd.R_types (Kd.R_apart' (Kd.R_apart' (Kd.R_apart' (Kd.R_apart' (Kd.R_apart' (Kd.R_apart' (O_19.o) (Kd.R_typed O_11.o) (by decide)) (Kd.R_typed O_17.o) (by decide)) (Kd.R_typed O_134000.o) (by decide)) (Kd.N_typed O_134001.o) (by decide)) (Kd.R_typed O_134002.o) (by decide)) (Kd.N_typed O_14.o) (by decide)) Q101.o (by decide)) Q102.o (by decide)) Q103.o (by decide)) Q133.o (by decide)) (fun k_ hk=>⟨⟨(.inr (hk.1.1.1.1.1.1.1.1.1.1)),⟨hk.1.1.1.1.1.1.1.1.1.2,⟨hk.1.1.1.1.1.1.1.1.2,⟨hk.1.1.1.1.1.1.1.2,⟨hk.1.1.1.1.1.1.2,⟨hk.1.1.1.1.1.2,⟨hk.1.1.1.2,⟨hk.1.1.2,⟨hk.1.2,hk.2⟩⟩⟩⟩⟩⟩⟩⟩⟩,hk.1.1.1.1.2⟩)))));(case aB=>exact(be4_ HB.o G101.o G102.o G103.o G133.o));(case aF=>exact(fun k_ hk=>⟨(.inr (Nat.le_trans (below_size (be4_ HB.o G101.o G102.o G103.o G133.o)) hk)),Kd.fresh' (Kd.R_lt (ra_ O_11.o)) k_ hk,Kd.fresh' (Kd.R_lt (ra_ O_17.o)) k_ hk,Kd.fresh' (Kd.R_lt (ra_ O_134000.o)) k_ hk,Kd.fresh' (Kd.N_lt (na_ O_134001.o)) k_ hk,Kd.fresh' (Kd.R_lt (ra_ O_134002.o)) k_ hk,fb_ Q101 hk,fb_ Q102 hk,fb_ Q103 hk,fb_ Q133 hk⟩));(case aO=>exact(mN_ O_14 (fun _ hk=>⟨hk.1,⟨hk.2.1,⟨hk.2.2.1,⟨hk.2.2.2.2.1,⟨hk.2.2.2.2.2.1,⟨hk.2.2.2.2.2.2.1,⟨hk.2.2.2.2.2.2.2.1,⟨hk.2.2.2.2.2.2.2.2.1,⟨hk.2.2.2.2.2.2.2.2.2.1,hk.2.2.2.2.2.2.2.2.2.2⟩⟩⟩⟩⟩⟩⟩⟩⟩)));(case aS=>exact(below_size (be4_ HB.o G101.o G102.o G103.o G133.o)));(case aL=>have:=LMc115.o;omega);intro v153 w128 ho hb hg hat;rw[←Ny152.o]at ho;have O154:=q_ (ho);replace O_11:=q_ (Kd.R_over' (ra_ O_11.o) (Kd.N_typed (na_ O_14.o)) (by decide) hg);replace O_17:=q_ (Kd.R_over' (ra_ O_17.o) (Kd.N_typed (na_ O_14.o)) (by decide) hg);replace O_102001:=q_ (Kd.V_afterv (ok:=(fun k_=>(P0_1_ k_∨w.heap.size≤k_)∧some k_≠(.slice (some ad146) x11_3.length co103:Value).ownBlock∧some k_≠(u17:Value).ownBlock∧some k_≠(.slice Ao129 t147.length co129:Value).ownBlock∧some k_≠(.slice Ao58 t114.length co58:Value).ownBlock∧some k_≠(u134001:Value).ownBlock∧some k_≠(u134002:Value).ownBlock∧k_≠gb101∧k_≠gb102∧k_≠gb103∧k_≠gb133)) (mV_ O_102001 (fun _ hk=>⟨⟨hk.1,⟨hk.2.1,⟨hk.2.2.2.1,⟨hk.2.2.2.2.1,⟨hk.2.2.2.2.2.1,⟨hk.2.2.2.2.2.2.1,⟨hk.2.2.2.2.2.2.2.1,⟨hk.2.2.2.2.2.2.2.2.1,⟨hk.2.2.2.2.2.2.2.2.2.1,⟨hk.2.2.2.2.2.2.2.2.2.2.1,hk.2.2.2.2.2.2.2.2.2.2.2⟩⟩⟩⟩⟩⟩⟩⟩⟩⟩,hk.2.2.1⟩)) hg hat);replace O_134000:=q_ (Kd.R_over' (ra_ O_134000.o) (Kd.N_typed (na_ O_14.o)) (by decide) hg);replace O_134001:=q_ (Kd.N_afterv (ok:=(fun k_=>(P0_1_ k_∨w.heap.size≤k_)∧some k_≠(.slice (some ad146) x11_3.length co103:Value).ownBlock∧some k_≠(u17:Value).ownBlock∧some k_≠(.slice Ao129 t147.length co129:Value).ownBlock∧some k_≠(.slice Ao58 t114.length co58:Value).ownBlock∧some k_≠(u134002:Value).ownBlock∧k_≠gb101∧k_≠gb102∧k_≠gb103∧k_≠gb133)) (mN_ O_134001 (fun _ hk=>⟨⟨hk.1,⟨hk.2.1,⟨hk.2.2.2.1,⟨hk.2.2.2.2.1,⟨hk.2.2.2.2.2.1,⟨hk.2.2.2.2.2.2.1,⟨hk.2.2.2.2.2.2.2.1,⟨hk.2.2.2.2.2.2.2.2.1,⟨hk.2.2.2.2.2.2.2.2.2.1,hk.2.2.2.2.2.2.2.2.2.2⟩⟩⟩⟩⟩⟩⟩⟩⟩,hk.2.2.1⟩)) hg hat);replace O_134002:=q_ (Kd.R_over' (ra_ O_134002.o) (Kd.N_typed (na_ O_14.o)) (by decide) hg);replace Q101:=bg_ Q101 hg (Kd.N_ne O_14.o Q101.o (by decide));replace Q102:=bg_ Q102 hg (Kd.N_ne O_14.o Q102.o (by decide));replace Q103:=bg_ Q103 hg (Kd.N_ne O_14.o Q103.o (by decide));replace Q133:=bg_ Q133 hg (Kd.N_ne O_14.o Q133.o (by decide));replace HB:=q_ (hb);clear O_14 O_19 ho hb hg hat;obtain⟨Ao130,co130,eo130⟩:=Kd.N_slice O154.o;subst eo130)| ((with_reducible refine gate_builtin (b:= .append) (xs:=#[.tmp 143, .tmp 145]) rfl ?_);at_builtin;refine Kd.R_append (Kd.int .i64) (w0:=w) w.heap.size rfl (.tmp 143) (.tmp 145) 22 2 (.int .i64 0) 8 rfl Try.underlying22 info2 rfl (by decide) (by omega) u17 x17_5 (x14_5.length:Int) [.int .i64 (x14_5.length:Int)] (fun k_=>(w.heap.size≤k_)∧some k_≠(.slice Ao58 t114.length co58:Value).ownBlock∧some k_≠(u134002:Value).ownBlock) (fun _=>False) rfl rfl ?aP (fun _ hk=>hk.elim) ?aF ?aO ?aB ?aS ?aL ?_;(case aP=>exact rfl);(case aB=>exact(be4_ HB.o G101.o G102.o G103.o G133.o));(case aF=>exact(fun k_ hk=>⟨(Nat.le_trans (below_size (be4_ HB.o G101.o G102.o G103.o G133.o)) hk),Kd.fresh' (Kd.R_lt (ra_ O_134000.o)) k_ hk,Kd.fresh' (Kd.R_lt (ra_ O_134002.o)) k_ hk⟩));(case aO=>exact(ra_ O_17.o));(case aS=>exact(below_size (be4_ HB.o G101.o G102.o G103.o G133.o)));(case aL=>have:=LMc127.o;omega);intro v156 w131 ho hb hg hat;rw[←Ny155.o]at ho;have O157:=q_ (ho);replace O_11:=q_ (Kd.R_over' (ra_ O_11.o) (Kd.R_typed (ra_ O_17.o)) (by decide) hg);replace O_102001:=q_ (Kd.V_afterv (ok:=(fun k_=>(P0_1_ k_∨w.heap.size≤k_)∧some k_≠(.slice (some ad146) x11_3.length co103:Value).ownBlock∧some k_≠(.slice Ao58 t114.length co58:Value).ownBlock∧some k_≠(u134001:Value).ownBlock∧some k_≠(u134002:Value).ownBlock∧some k_≠(.slice Ao130 y152.length co130:Value).ownBlock∧k_≠gb101∧k_≠gb102∧k_≠gb103∧k_≠gb133)) (mV_ O_102001 (fun _ hk=>⟨⟨hk.1.1,⟨hk.1.2.1,⟨hk.1.2.2.2.2.1,⟨hk.1.2.2.2.2.2.1,⟨hk.1.2.2.2.2.2.2.1,⟨hk.2,⟨hk.1.2.2.2.2.2.2.2.1,⟨hk.1.2.2.2.2.2.2.2.2.1,⟨hk.1.2.2.2.2.2.2.2.2.2.1,hk.1.2.2.2.2.2.2.2.2.2.2⟩⟩⟩⟩⟩⟩⟩⟩⟩,hk.1.2.2.1⟩)) hg hat);replace O_134000:=q_ (Kd.R_after (ok:=(fun k_=>(w.heap.size≤k_)∧some k_≠(u134002:Value).ownBlock)) (mR_ O_134000 (fun _ hk=>⟨⟨hk.1,hk.2.2⟩,hk.2.1⟩)) hg hat);replace O_134001:=q_ (Kd.N_afterv (ok:=(fun k_=>(P0_1_ k_∨w.heap.size≤k_)∧some k_≠(.slice (some ad146) x11_3.length co103:Value).ownBlock∧some k_≠(.slice Ao58 t114.length co58:Value).ownBlock∧some k_≠(u134002:Value).ownBlock∧some k_≠(.slice Ao130 y152.length co130:Value).ownBlock∧k_≠gb101∧k_≠gb102∧k_≠gb103∧k_≠gb133)) (mN_ O_134001 (fun _ hk=>⟨⟨hk.1.1,⟨hk.1.2.1,⟨hk.1.2.2.2.2.1,⟨hk.1.2.2.2.2.2.1,⟨hk.2,⟨hk.1.2.2.2.2.2.2.1,⟨hk.1.2.2.2.2.2.2.2.1,⟨hk.1.2.2.2.2.2.2.2.2.1,hk.1.2.2.2.2.2.2.2.2.2⟩⟩⟩⟩⟩⟩⟩⟩,hk.1.2.2.1⟩)) hg hat);replace O_134002:=q_ (Kd.R_after (ok:=(fun k_=>(w.heap.size≤k_)∧some k_≠(.slice Ao58 t114.length co58:Value).ownBlock)) (mR_ O_134002 (fun _ hk=>⟨⟨hk.1,hk.2.2⟩,hk.2.1⟩)) hg hat);replace Q101:=bg_ Q101 hg (Kd.R_ne O_17.o Q101.o (by decide));replace Q102:=bg_ Q102 hg (Kd.R_ne O_17.o Q102.o (by decide));replace Q103:=bg_ Q103 hg (Kd.R_ne O_17.o Q103.o (by decide));replace Q133:=bg_ Q133 hg (Kd.R_ne O_17.o Q133.o (by decide));replace O154:=q_ (Kd.N_afterv (ok:=(fun k_=>(P0_1_ k_∨w.heap.size≤k_)∧some k_≠(.slice (some ad146) x11_3.length co103:Value).ownBlock∧some k_≠(.slice Ao58 t114.length co58:Value).ownBlock∧some k_≠(u134001:Value).ownBlock∧some k_≠(u134002:Value).ownBlock∧k_≠gb101∧k_≠gb102∧k_≠gb103∧k_≠gb133)) (mN_ O154 (fun _ hk=>⟨⟨hk.1,⟨hk.2.1,⟨hk.2.2.2.1,⟨hk.2.2.2.2.1,⟨hk.2.2.2.2.2.1,⟨hk.2.2.2.2.2.2.1,⟨hk.2.2.2.2.2.2.2.1,⟨hk.2.2.2.2.2.2.2.2.1,hk.2.2.2.2.2.2.2.2.2⟩⟩⟩⟩⟩⟩⟩⟩,hk.2.2.1⟩)) hg hat);replace HB:=q_ (hb);clear O_17 ho hb hg hat))
               go_roundg kj104
               case measure=>have:=HJ2.o;have:=HK2.o;have:=HK3.o;have:=HK4.o;have:=HK5.o;have:=HK6.o;have:=HJ104.o;omega
               case rel=>exact⟨(y152),(y155),(wrap64 (x18_5+1)),rs_,H',⟨by have:=HJ2.o;have:=HK2.o;have:=HK3.o;have:=HK4.o;have:=HK5.o;have:=HK6.o;have:=HJ104.o;omega⟩,⟨ra_ O_11.o⟩,⟨mN_ O154 (fun _ hk=>⟨hk.1.1,⟨hk.1.2.1,⟨hk.2,⟨hk.1.2.2.1,⟨hk.1.2.2.2.1,⟨hk.1.2.2.2.2.1,⟨hk.1.2.2.2.2.2.1,⟨hk.1.2.2.2.2.2.2.1,⟨hk.1.2.2.2.2.2.2.2.1,hk.1.2.2.2.2.2.2.2.2⟩⟩⟩⟩⟩⟩⟩⟩⟩)⟩,⟨ra_ O157.o⟩,⟨mV_ O_102001 (fun _ hk=>⟨hk.1.1,⟨hk.1.2.1,⟨hk.1.2.2.2.2.2.1,⟨hk.2,⟨hk.1.2.2.1,⟨hk.1.2.2.2.1,⟨hk.1.2.2.2.2.1,⟨hk.1.2.2.2.2.2.2.1,⟨hk.1.2.2.2.2.2.2.2.1,⟨hk.1.2.2.2.2.2.2.2.2.1,hk.1.2.2.2.2.2.2.2.2.2⟩⟩⟩⟩⟩⟩⟩⟩⟩⟩)⟩,⟨mR_ O_134000 (fun _ hk=>⟨hk.1.1,⟨hk.2,hk.1.2⟩⟩)⟩,⟨mN_ O_134001 (fun _ hk=>⟨hk.1.1,⟨hk.1.2.1,⟨hk.1.2.2.2.2.1,⟨hk.2,⟨hk.1.2.2.1,⟨hk.1.2.2.2.1,⟨hk.1.2.2.2.2.2.1,⟨hk.1.2.2.2.2.2.2.1,⟨hk.1.2.2.2.2.2.2.2.1,hk.1.2.2.2.2.2.2.2.2⟩⟩⟩⟩⟩⟩⟩⟩⟩)⟩,⟨mR_ O_134002 (fun _ hk=>⟨hk.1.1,⟨hk.2,hk.1.2⟩⟩)⟩,⟨bk_ Q101.o⟩,⟨bk_ Q102.o⟩,⟨bk_ Q103.o⟩,⟨bk_ Q133.o⟩,⟨be4_ HB.o G101.o G102.o G103.o G133.o⟩⟩
def spec_l3Kids.j0:Nat→Int→Bool→Option (Int)
 |0,_,_=>none
 |k+1,x3,x4=>if x4=true then(some 2)else(if x3=5 then(some 1)else(if x3=6 then(some 1)else(if x3=7 then(some 1)else(if x3=8 then(some 1)else(some 0)))))
def spec_l3Kids.f(k:Nat)(a0:Int):Option (Int):=if a0=3 then(spec_l3Kids.j0 k a0 (a0==3))else(spec_l3Kids.j0 k a0 (a0==4))
theorem spec_l3Kids.calls(k:Nat)(a0:Int)(r:Int)(w:World)(h:spec_l3Kids.f k a0=some r):
  Calls Try.prog 153 #[.int .i64 a0] w fun e w'=>e= .returned (.int .i64 r)∧Drawn0 w w':=by
 have H:(if a0=3 then(spec_l3Kids.j0 k a0 (a0==3))else(spec_l3Kids.j0 k a0 (a0==4)))=some r:=h;clear h;have HC2:=q_ H;clear H;go_enter Try.func153,Try.ntmps153
 go_upto_if 4 with(fail)
 go_cut [4] (fun v4 wc=>∃(kq:Nat) (x4_1:Bool),v4= .bool x4_1∧J0 (spec_l3Kids.j0 kq a0 x4_1=some r)∧J0 (kq≤k)∧Drawn0 w wc)
 case first=>
  have H:=HC2.o;clear HC2;by_cases c3:a0=3;rotate_left
  ·rw[iN c3]at H;have c3b0:(a0==3)=false:=beq_eq_false_iff_ne.mpr c3;have c3b1:(a0 != 3)=true:=bne_iff_ne.mpr c3
   (rw[c3b0])
   have H':=q_ H;clear H;go_wp2;go_meet
   case rel=>exact⟨_,((a0==4)),rs_,H',⟨by omega⟩,by repeat(exact Drawn0.refl _)⟩
  rw[iP c3]at H;have c3b0:(a0==3)=true:=beq_iff_eq.mpr c3;have c3b1:(a0 != 3)=false:=bne_eq_false_iff_eq.mpr c3;clear c3
  (rw[c3b0])
  have H':=q_ H;clear H;go_wp2;go_meet
  case rel=>exact⟨_,((a0==3)),rs_,H',⟨by omega⟩,by repeat(exact Drawn0.refl _)⟩
 case rest=>
  clear HC2;obtain⟨kq,x4_1,rfl,HA,HJ1,⟨mc1,rfl⟩⟩:=hcut;cases kq with
  |zero=>exact absurd HA.o (by simp[spec_l3Kids.j0])
  | succ kj1=>
   have H:=HA.o;clear HA;simp only[spec_l3Kids.j0]at H;by_cases c4:x4_1=true
   ·subst c4;rw[iP rfl]at H;obtain rfl:=Option.some.inj H;go_wp2
    go_ret
    exact⟨by rfl,by repeat(first|exact Drawn0.refl _|apply Drawn0.step)⟩
   replace c4:=Bool.eq_false_iff.mpr c4;subst c4;rw[iN nft_]at H;by_cases c5:a0=5
   ·rw[iP c5]at H;have c5b0:(a0==5)=true:=beq_iff_eq.mpr c5;have c5b1:(a0 != 5)=false:=bne_eq_false_iff_eq.mpr c5;clear c5;obtain rfl:=Option.some.inj H;go_wp2
    go_ret
    exact⟨by rfl,by repeat(first|exact Drawn0.refl _|apply Drawn0.step)⟩
   rw[iN c5]at H;have c5b0:(a0==5)=false:=beq_eq_false_iff_ne.mpr c5;have c5b1:(a0 != 5)=true:=bne_iff_ne.mpr c5;by_cases c6:a0=6
   ·rw[iP c6]at H;have c6b0:(a0==6)=true:=beq_iff_eq.mpr c6;have c6b1:(a0 != 6)=false:=bne_eq_false_iff_eq.mpr c6;clear c6;obtain rfl:=Option.some.inj H;go_wp2
    go_ret
    exact⟨by rfl,by repeat(first|exact Drawn0.refl _|apply Drawn0.step)⟩
   rw[iN c6]at H;have c6b0:(a0==6)=false:=beq_eq_false_iff_ne.mpr c6;have c6b1:(a0 != 6)=true:=bne_iff_ne.mpr c6;by_cases c7:a0=7
   ·rw[iP c7]at H;have c7b0:(a0==7)=true:=beq_iff_eq.mpr c7;have c7b1:(a0 != 7)=false:=bne_eq_false_iff_eq.mpr c7;clear c7;obtain rfl:=Option.some.inj H;go_wp2
    go_ret
    exact⟨by rfl,by repeat(first|exact Drawn0.refl _|apply Drawn0.step)⟩
   rw[iN c7]at H;have c7b0:(a0==7)=false:=beq_eq_false_iff_ne.mpr c7;have c7b1:(a0 != 7)=true:=bne_iff_ne.mpr c7;by_cases c8:a0=8;rotate_left
   ·rw[iN c8]at H;have c8b0:(a0==8)=false:=beq_eq_false_iff_ne.mpr c8;have c8b1:(a0 != 8)=true:=bne_iff_ne.mpr c8;obtain rfl:=Option.some.inj H;go_wp2
    go_ret
    exact⟨by rfl,by repeat(first|exact Drawn0.refl _|apply Drawn0.step)⟩
   rw[iP c8]at H;have c8b0:(a0==8)=true:=beq_iff_eq.mpr c8;have c8b1:(a0 != 8)=false:=bne_eq_false_iff_eq.mpr c8;clear c8;obtain rfl:=Option.some.inj H;go_wp2
   go_ret
   exact⟨by rfl,by repeat(first|exact Drawn0.refl _|apply Drawn0.step)⟩
mutual
def spec_l3Node.j0:Nat→Int→Bool→Int→List (S163)→List Int→Int→Int→Option (Bool)
 |0,_,_,_,_,_,_,_=>none
 |k+1,x1,x18,x102000,x102001,x102002,x102003,x102004=>if x18=true then(some false)else(spec_l3Node.l0 k x1 0 x102000 x102001 x102002 x102003 x102004)
def spec_l3Node.l0:Nat→Int→Int→Int→List (S163)→List Int→Int→Int→Option (Bool)
 |0,_,_,_,_,_,_,_=>none
 |k+1,x1,x5,x102000,x102001,x102002,x102003,x102004=>if x5<(x102002.length:Int)then(if 0≤x5 then((spec_l1In.f (rd x102002 x5) 0 (wrap64 (x1-1))).bind fun t105=>(if t105=true then(spec_l3Node.l0 k x1 (wrap64 (x5+1)) x102000 x102001 x102002 x102003 x102004)else(some false)))else(none))else(if x102000=2 then((spec_ClassOk.f k x102001).bind fun t106=>(if t106=true then(if(x102001.length:Int)=0 then(spec_l3Node.j2 k true x102000 x102001 x102002 x102003 x102004)else(spec_l3Node.j2 k false x102000 x102001 x102002 x102003 x102004))else(spec_l3Node.j2 k true x102000 x102001 x102002 x102003 x102004)))else(spec_l3Node.j2 k (decide ((x102001.length:Int)>0)) x102000 x102001 x102002 x102003 x102004))
def spec_l3Node.j2:Nat→Bool→Int→List (S163)→List Int→Int→Int→Option (Bool)
 |0,_,_,_,_,_,_=>none
 |k+1,x60,x102000,x102001,x102002,x102003,x102004=>if x60=true then(some false)else(if x102000=8 then((spec_l1In.f x102003 0 30).bind fun t107=>(if t107=true then(if x102004=(-1)then(some true)else((spec_l1In.f x102004 (mx 1 x102003) 30).bind fun t108=>(some t108)))else(some false)))else(if x102003=0 then(some (x102004==0))else(some false)))
end
def spec_l3Node.f(k:Nat)(a0_0:Int)(l0_1:List (S163))(l0_2:List Int)(a0_3:Int)(a0_4:Int)(a1:Int):Option (Bool):=(spec_l1In.f a0_0 1 8).bind fun t102=>(if t102=true then((spec_l3Kids.f k a0_0).bind fun t103=>(spec_l3Node.j0 k a1 ((l0_2.length:Int) != t103) a0_0 l0_1 l0_2 a0_3 a0_4))else(spec_l3Node.j0 k a1 true a0_0 l0_1 l0_2 a0_3 a0_4))
theorem spec_l3Node.calls(k:Nat)(a0_0:Int)(A0_1:Option Addr)(c0_1:Nat)(l0_1:List (S163))(A0_2:Option Addr)(c0_2:Nat)(l0_2:List Int)(a0_3:Int)(a0_4:Int)(a1:Int)(r:Bool)(w:World)(hr0_1:Kd.C k163 w A0_1 l0_1.length l0_1)(hc0_1:l0_1.length≤c0_1)(hr0_2:Kd.C (Kd.int .i64) w A0_2 l0_2.length l0_2)(hc0_2:l0_2.length≤c0_2)(h:spec_l3Node.f k a0_0 l0_1 l0_2 a0_3 a0_4 a1=some r):
  Calls Try.prog 143 #[.agg #[.int .i64 a0_0, .slice A0_1 l0_1.length c0_1, .slice A0_2 l0_2.length c0_2, .int .i64 a0_3, .int .i64 a0_4], .int .i64 a1] w fun e w'=>e= .returned (.bool r)∧Below w.heap.size w w':=by
 have hu196:=Try.underlying196;have HR0_1:=q_ hr0_1;have HC0_1:=q_ hc0_1;clear hr0_1 hc0_1;have HR0_2:=q_ hr0_2;have HC0_2:=q_ hc0_2;clear hr0_2 hc0_2;have HB:=q_ (Below.refl w.heap.size w);have H:((spec_l1In.f a0_0 1 8).bind fun t102=>(if t102=true then((spec_l3Kids.f k a0_0).bind fun t103=>(spec_l3Node.j0 k a1 ((l0_2.length:Int) != t103) a0_0 l0_1 l0_2 a0_3 a0_4))else(spec_l3Node.j0 k a1 true a0_0 l0_1 l0_2 a0_3 a0_4)))=some r:=h;clear h;have HC3:=q_ H;clear H;go_enter Try.func143,Try.ntmps143;go_upto_region 1 with(((with_reducible refine gate_dst (N:=2) rfl ?_);(try(refine gate_guard (by rfl) ?_;dsimp only));refine bx_ 2 #[.int .i64 a0_0, .slice A0_1 l0_1.length c0_1, .slice A0_2 l0_2.length c0_2, .int .i64 a0_3, .int .i64 a0_4] 196 ?_;intro gb101 hg w4 hbox hb;have Q101:=q_ (hbox);have G101:=ge_ hg HB;replace HB:=sb_ HB hb;clear hb hbox hg))
 go_cut [18] (fun v18 wc=>∃(kq:Nat) (x18_2:Bool),v18= .bool x18_2∧J0 (spec_l3Node.j0 kq a1 x18_2 a0_0 l0_1 l0_2 a0_3 a0_4=some r)∧J0 (kq≤k)∧J0 (wc.heap[gb101]? =some (.cells #[.int .i64 a0_0,(.slice A0_1 l0_1.length c0_1),(.slice A0_2 l0_2.length c0_2), .int .i64 a0_3, .int .i64 a0_4] 196 (0,0)))∧J0 (Below w.heap.size w wc))
 case first=>
  have H:=HC3.o;clear HC3;obtain⟨t102,A5,H⟩:=ob_ H;obtain⟨z8_0,z8_1,z8_2,z8_3,z8_4,y8_0,y8_1,y8_2,y8_3,y8_4⟩:=d5_ Q101;by_cases c6:t102=true;rotate_left
  ·replace c6:=Bool.eq_false_iff.mpr c6;subst c6;rw[iN nft_]at H;have H':=q_ H;clear H
   go_wp2_with(first| (go_at_call 60;(with_reducible refine(spec_l1In.calls a0_0 1 8 false _ A5.o).mono ?_);rintro e w' ⟨rfl,⟨nd,rfl⟩⟩))
   repeat(go_quiet ((go_at_call 60;(with_reducible refine(spec_l1In.calls a0_0 1 8 false _ A5.o).mono ?_);rintro e w' ⟨rfl,⟨nd,rfl⟩⟩;(try first|exact⟨rfl,_,World.drewN_drewN _ _ _⟩|exact⟨rfl,_,Eq.trans (World.drewN_drewN _ _ _) (congrArg (World.drewN _) (Nat.add_assoc _ _ _))⟩)));try go_wp2_with(first| (go_at_call 60;(with_reducible refine(spec_l1In.calls a0_0 1 8 false _ A5.o).mono ?_);rintro e w' ⟨rfl,⟨nd,rfl⟩⟩)))
   go_meet
   case rel=>exact⟨_,(true),rs_,H',⟨by omega⟩,⟨bk_ Q101.o⟩,⟨be1_ HB.o G101.o⟩⟩
  subst c6;rw[iP rfl]at H;obtain⟨t103,A7,H⟩:=ob_ H;have H':=q_ H;clear H
  go_wp2_with(first| (go_at_call 60;(with_reducible refine(spec_l1In.calls a0_0 1 8 true _ A5.o).mono ?_);rintro e w' ⟨rfl,⟨nd,rfl⟩⟩)| (go_at_call 153;(with_reducible refine(spec_l3Kids.calls k a0_0 t103 _ A7.o).mono ?_);rintro e w' ⟨rfl,⟨nd,rfl⟩⟩))
  repeat(go_quiet (first| (go_at_call 60;(with_reducible refine(spec_l1In.calls a0_0 1 8 true _ A5.o).mono ?_);rintro e w' ⟨rfl,⟨nd,rfl⟩⟩;(try first|exact⟨rfl,_,World.drewN_drewN _ _ _⟩|exact⟨rfl,_,Eq.trans (World.drewN_drewN _ _ _) (congrArg (World.drewN _) (Nat.add_assoc _ _ _))⟩))| (go_at_call 153;(with_reducible refine(spec_l3Kids.calls k a0_0 t103 _ A7.o).mono ?_);rintro e w' ⟨rfl,⟨nd,rfl⟩⟩;(try first|exact⟨rfl,_,World.drewN_drewN _ _ _⟩|exact⟨rfl,_,Eq.trans (World.drewN_drewN _ _ _) (congrArg (World.drewN _) (Nat.add_assoc _ _ _))⟩)));try go_wp2_with(first| (go_at_call 60;(with_reducible refine(spec_l1In.calls a0_0 1 8 true _ A5.o).mono ?_);rintro e w' ⟨rfl,⟨nd,rfl⟩⟩)| (go_at_call 153;(with_reducible refine(spec_l3Kids.calls k a0_0 t103 _ A7.o).mono ?_);rintro e w' ⟨rfl,⟨nd,rfl⟩⟩)))
  go_meet
  case rel=>exact⟨_,(((l0_2.length:Int) != t103)),rs_,H',⟨by omega⟩,⟨bk_ Q101.o⟩,⟨be1_ HB.o G101.o⟩⟩
 case rest=>
  clear HC3;obtain⟨kq,x18_2,rfl,HA,HJ2,Q101,HB⟩:=hcut;cases kq with
  |zero=>exact absurd HA.o (by simp[spec_l3Node.j0])
  | succ kj2=>
   have H:=HA.o;clear HA;simp only[spec_l3Node.j0]at H;by_cases c10:x18_2=true
   ·subst c10;rw[iP rfl]at H;obtain rfl:=Option.some.inj H;go_wp2
    go_ret
    exact⟨rt_,be1_ HB.o G101.o⟩
   replace c10:=Bool.eq_false_iff.mpr c10;subst c10;rw[iN nft_]at H;have H':=q_ H;clear H;go_wp2
   go_loopg [5] kj2 (fun kq v5 w'=>∃(x5_2:Int),v5= .int .i64 x5_2∧J0 (spec_l3Node.l0 kq a1 x5_2 a0_0 l0_1 l0_2 a0_3 a0_4=some r)∧J0 (kq≤kj2)∧J0 (w'.heap[gb101]? =some (.cells #[.int .i64 a0_0,(.slice A0_1 l0_1.length c0_1),(.slice A0_2 l0_2.length c0_2), .int .i64 a0_3, .int .i64 a0_4] 196 (0,0)))∧J0 (Below w.heap.size w w'))
   case atStart=>exact⟨(0),rs_,H',⟨Nat.le_refl _⟩,⟨bk_ Q101.o⟩,⟨be1_ HB.o G101.o⟩⟩
   case round=>
    clear H';obtain⟨x5_2,rfl,HA,HK2,Q101,HB⟩:=hrel;cases gk with
    |zero=>exact absurd HA.o (by simp[spec_l3Node.l0])
    | succ k2=>
     have H:=HA.o;clear HA;simp only[spec_l3Node.l0]at H;obtain⟨z15_0,z15_1,z15_2,z15_3,z15_4,y15_0,y15_1,y15_2,y15_3,y15_4⟩:=d5_ Q101;by_cases c11:x5_2<(l0_2.length:Int)
     ·rw[iP c11]at H;have d11:=dt_ c11;clear c11;obtain⟨d12,H⟩:=iq_ H;obtain⟨t105,A13,H⟩:=ob_ H;obtain⟨p104,q104⟩:=pq_ x5_2 (l0_2.length:Int);obtain⟨ad104,e104,X104_0⟩:=Kd.at_int HR0_2.o x5_2 p104 q104;cases e104;replace X104_0:=mv_ HB.o X104_0;obtain⟨p104,q104⟩:=et_ p104 q104;by_cases c14:t105=true;rotate_left
      ·replace c14:=Bool.eq_false_iff.mpr c14;subst c14;rw[iN nft_]at H;obtain rfl:=Option.some.inj H
       go_wp2_with((go_at_call 60;(with_reducible refine(spec_l1In.calls (rd l0_2 x5_2) 0 (wrap64 (a1-1)) false _ A13.o).mono ?_);rintro e w' ⟨rfl,⟨nd,rfl⟩⟩))
       go_ret
       exact⟨rt_,be1_ HB.o G101.o⟩
      subst c14;rw[iP rfl]at H;have H':=q_ H;clear H
      go_wp2_with((go_at_call 60;(with_reducible refine(spec_l1In.calls (rd l0_2 x5_2) 0 (wrap64 (a1-1)) true _ A13.o).mono ?_);rintro e w' ⟨rfl,⟨nd,rfl⟩⟩))
      go_roundg k2
      case measure=>have:=HJ2.o;have:=HK2.o;omega
      case rel=>exact⟨(wrap64 (x5_2+1)),rs_,H',⟨by have:=HJ2.o;have:=HK2.o;omega⟩,⟨bk_ Q101.o⟩,⟨be1_ HB.o G101.o⟩⟩
     rw[iN c11]at H;have d11:=df_ c11;clear c11;have HC17:=q_ H;clear H;go_upto_region 8 with(fail)
     go_cut [60] (fun v60 wc=>∃(kq:Nat) (x60_16:Bool),v60= .bool x60_16∧J0 (spec_l3Node.j2 kq x60_16 a0_0 l0_1 l0_2 a0_3 a0_4=some r)∧J0 (kq≤k2)∧J0 (wc.heap[gb101]? =some (.cells #[.int .i64 a0_0,(.slice A0_1 l0_1.length c0_1),(.slice A0_2 l0_2.length c0_2), .int .i64 a0_3, .int .i64 a0_4] 196 (0,0)))∧J0 (Below w.heap.size w wc))
     case first=>
      have H:=HC17.o;clear HC17;by_cases c19:a0_0=2;rotate_left
      ·rw[iN c19]at H;have d19:(a0_0==2)=false:=beq_eq_false_iff_ne.mpr c19;have c19b1:(a0_0 != 2)=true:=bne_iff_ne.mpr c19
       (skip)
       have H':=q_ H;clear H;obtain⟨z31_0,z31_1,z31_2,z31_3,z31_4,y31_0,y31_1,y31_2,y31_3,y31_4⟩:=d5_ Q101;go_wp2;go_meet
       case rel=>exact⟨_,(decide ((l0_1.length:Int)>0)),rs_,H',⟨by have:=HJ2.o;have:=HK2.o;first|omega|exact Nat.le_refl _⟩,⟨bk_ Q101.o⟩,⟨be1_ HB.o G101.o⟩⟩
      rw[iP c19]at H;have d19:(a0_0==2)=true:=beq_iff_eq.mpr c19;have c19b1:(a0_0 != 2)=false:=bne_eq_false_iff_eq.mpr c19;clear c19
      (skip)
      obtain⟨t106,A20,H⟩:=ob_ H;by_cases c21:t106=true;rotate_left
      ·replace c21:=Bool.eq_false_iff.mpr c21;subst c21;rw[iN nft_]at H;have H':=q_ H;clear H;obtain⟨z29_0,z29_1,z29_2,z29_3,z29_4,y29_0,y29_1,y29_2,y29_3,y29_4⟩:=d5_ Q101
       go_wp2_with((go_at_call 116;(with_reducible refine(spec_ClassOk.calls k2 _ _ l0_1 false _ ?side1 ?side2 A20.o).mono ?_);(case side1=>exact Kd.C_below HR0_1.o (be_ HB.o));(case side2=>exact HC0_1.o);rintro e w30 ⟨rfl,hb⟩;replace Q101:=lb_ Q101 hb;replace HB:=sb1_ HB G101 hb;clear hb))
       go_meet
       case rel=>exact⟨_,(true),rs_,H',⟨by have:=HJ2.o;have:=HK2.o;first|omega|exact Nat.le_refl _⟩,⟨bk_ Q101.o⟩,⟨be1_ HB.o G101.o⟩⟩
      subst c21;rw[iP rfl]at H;by_cases c22:(l0_1.length:Int)=0
      ·rw[iP c22]at H;have d22:((l0_1.length:Int)==0)=true:=beq_iff_eq.mpr c22;have c22b1:((l0_1.length:Int) != 0)=false:=bne_eq_false_iff_eq.mpr c22;clear c22;have H':=q_ H;clear H;obtain⟨z23_0,z23_1,z23_2,z23_3,z23_4,y23_0,y23_1,y23_2,y23_3,y23_4⟩:=d5_ Q101
       go_wp2_with((go_at_call 116;(with_reducible refine(spec_ClassOk.calls k2 _ _ l0_1 true _ ?side1 ?side2 A20.o).mono ?_);(case side1=>exact Kd.C_below HR0_1.o (be_ HB.o));(case side2=>exact HC0_1.o);rintro e w24 ⟨rfl,hb⟩;replace Q101:=lb_ Q101 hb;replace HB:=sb1_ HB G101 hb;clear hb;obtain⟨z25_0,z25_1,z25_2,z25_3,z25_4,y25_0,y25_1,y25_2,y25_3,y25_4⟩:=d5_ Q101))
       go_meet
       case rel=>exact⟨_,(true),rs_,H',⟨by have:=HJ2.o;have:=HK2.o;first|omega|exact Nat.le_refl _⟩,⟨bk_ Q101.o⟩,⟨be1_ HB.o G101.o⟩⟩
      rw[iN c22]at H;have d22:((l0_1.length:Int)==0)=false:=beq_eq_false_iff_ne.mpr c22;have c22b1:((l0_1.length:Int) != 0)=true:=bne_iff_ne.mpr c22;have c22b2:¬(l0_1= []):=fun h_=>c22 (by rw[h_];rfl);have H':=q_ H;clear H;obtain⟨z26_0,z26_1,z26_2,z26_3,z26_4,y26_0,y26_1,y26_2,y26_3,y26_4⟩:=d5_ Q101
      go_wp2_with((go_at_call 116;(with_reducible refine(spec_ClassOk.calls k2 _ _ l0_1 true _ ?side1 ?side2 A20.o).mono ?_);(case side1=>exact Kd.C_below HR0_1.o (be_ HB.o));(case side2=>exact HC0_1.o);rintro e w27 ⟨rfl,hb⟩;replace Q101:=lb_ Q101 hb;replace HB:=sb1_ HB G101 hb;clear hb;obtain⟨z28_0,z28_1,z28_2,z28_3,z28_4,y28_0,y28_1,y28_2,y28_3,y28_4⟩:=d5_ Q101))
      go_meet
      case rel=>exact⟨_,(false),rs_,H',⟨by have:=HJ2.o;have:=HK2.o;first|omega|exact Nat.le_refl _⟩,⟨bk_ Q101.o⟩,⟨be1_ HB.o G101.o⟩⟩
     case rest=>
      clear HC17 d11 z15_0 z15_1 z15_2 z15_3 z15_4 y15_0 y15_1 y15_2 y15_3 y15_4;obtain⟨kq,x60_16,rfl,HA,HJ16,Q101,HB⟩:=hcut;cases kq with
      |zero=>exact absurd HA.o (by simp[spec_l3Node.j2])
      | succ kj16=>
       have H:=HA.o;clear HA;simp only[spec_l3Node.j2]at H;by_cases c32:x60_16=true
       ·subst c32;rw[iP rfl]at H;obtain rfl:=Option.some.inj H;go_wp2
        go_ret
        exact⟨rt_,be1_ HB.o G101.o⟩
       replace c32:=Bool.eq_false_iff.mpr c32;subst c32;rw[iN nft_]at H;obtain⟨z37_0,z37_1,z37_2,z37_3,z37_4,y37_0,y37_1,y37_2,y37_3,y37_4⟩:=d5_ Q101;by_cases c33:a0_0=8;rotate_left
       ·rw[iN c33]at H;have d33:(a0_0==8)=false:=beq_eq_false_iff_ne.mpr c33;have c33b1:(a0_0 != 8)=true:=bne_iff_ne.mpr c33;by_cases c42:a0_3=0;rotate_left
        ·rw[iN c42]at H;have d42:(a0_3==0)=false:=beq_eq_false_iff_ne.mpr c42;have c42b1:(a0_3 != 0)=true:=bne_iff_ne.mpr c42;obtain rfl:=Option.some.inj H;go_wp2
         go_ret
         exact⟨rt_,be1_ HB.o G101.o⟩
        rw[iP c42]at H;have d42:(a0_3==0)=true:=beq_iff_eq.mpr c42;have c42b1:(a0_3 != 0)=false:=bne_eq_false_iff_eq.mpr c42;clear c42;obtain rfl:=Option.some.inj H;go_wp2
        go_ret
        exact⟨rt_,be1_ HB.o G101.o⟩
       rw[iP c33]at H;have d33:(a0_0==8)=true:=beq_iff_eq.mpr c33;have c33b1:(a0_0 != 8)=false:=bne_eq_false_iff_eq.mpr c33;clear c33;obtain⟨t107,A34,H⟩:=ob_ H;by_cases c35:t107=true;rotate_left
       ·replace c35:=Bool.eq_false_iff.mpr c35;subst c35;rw[iN nft_]at H;obtain rfl:=Option.some.inj H
        go_wp2_with((go_at_call 60;(with_reducible refine(spec_l1In.calls a0_3 0 30 false _ A34.o).mono ?_);rintro e w' ⟨rfl,⟨nd,rfl⟩⟩))
        go_ret
        exact⟨rt_,be1_ HB.o G101.o⟩
       subst c35;rw[iP rfl]at H;by_cases c36:a0_4=(-1)
       ·rw[iP c36]at H;have d36:(a0_4== (-1))=true:=beq_iff_eq.mpr c36;have c36b1:(a0_4 != (-1))=false:=bne_eq_false_iff_eq.mpr c36;clear c36;obtain rfl:=Option.some.inj H
        go_wp2_with((go_at_call 60;(with_reducible refine(spec_l1In.calls a0_3 0 30 true _ A34.o).mono ?_);rintro e w' ⟨rfl,⟨nd,rfl⟩⟩))
        go_ret
        exact⟨rt_,be1_ HB.o G101.o⟩
       rw[iN c36]at H;have d36:(a0_4== (-1))=false:=beq_eq_false_iff_ne.mpr c36;have c36b1:(a0_4 != (-1))=true:=bne_iff_ne.mpr c36;obtain⟨ji38,hji38⟩:∃j_:Int,(mx 1 a0_3)=j_:=⟨_,rfl⟩;replace H:((spec_l1In.f a0_4 (ji38) 30).bind fun t108=>(some t108))=some r:=by(rw[hji38]at H;exact H)
       have hji38_:(if 1<a0_3 then a0_3 else 1)=ji38:=hji38;obtain⟨t108,A39,H⟩:=ob_ H;obtain rfl:=Option.some.inj H
       go_wp2_with(first| (go_at_call 60;(with_reducible refine(spec_l1In.calls a0_3 0 30 true _ A34.o).mono ?_);rintro e w' ⟨rfl,⟨nd,rfl⟩⟩)| (go_at_call 60;(with_reducible refine(spec_l1In.calls a0_4 ji38 30 t108 _ A39.o).mono ?_);rintro e w' ⟨rfl,⟨nd,rfl⟩⟩))
       go_ret
       exact⟨by rfl,be1_ HB.o G101.o⟩
mutual
def spec_RxOk.j0:Nat→Int→Bool→List (S196)→Option (Bool)
 |0,_,_,_=>none
 |k+1,x3,x18,x102000=>if x18=true then(some false)else(if 0≤x3 then(if(x3:Int).toNat≤35184372088832 then(spec_RxOk.l0 k x3 (List.replicate (x3:Int).toNat 0) 0 x102000)else(none))else(none))
def spec_RxOk.l0:Nat→Int→List Int→Int→List (S196)→Option (Bool)
 |0,_,_,_,_=>none
 |k+1,x3,x4,x5,x102000=>if x5<x3 then(if 0≤x5 then(if x5<(x102000.length:Int)then((spec_l3Node.f k ((rd_T196 x102000 x5).f0) ((rd_T196 x102000 x5).f1) ((rd_T196 x102000 x5).f2) ((rd_T196 x102000 x5).f3) ((rd_T196 x102000 x5).f4) x5).bind fun t106=>(if t106=true then(spec_RxOk.l1 k x3 x4 x5 0 x102000)else(some false)))else(none))else(none))else(if 0≤x3 then(if(x3:Int).toNat≤35184372088832 then(spec_RxOk.l2 k x3 x4 (List.replicate (x3:Int).toNat 0) (wrap64 (x3-1)) x102000)else(none))else(none))
def spec_RxOk.l1:Nat→Int→List Int→Int→Int→List (S196)→Option (Bool)
 |0,_,_,_,_,_=>none
 |k+1,x3,x4,x5,x6,x102000=>if 0≤x5 then(if x5<(x102000.length:Int)then(if x6<(((rd_T196 x102000 x5).f2).length:Int)then(if 0≤x6 then(if 0≤(rd ((rd_T196 x102000 x5).f2) x6)then(if(rd ((rd_T196 x102000 x5).f2) x6)<(x4.length:Int)then(spec_RxOk.l1 k x3 (x4.set ((rd ((rd_T196 x102000 x5).f2) x6):Int).toNat (wrap64 ((rd x4 (rd ((rd_T196 x102000 x5).f2) x6))+1))) x5 (wrap64 (x6+1)) x102000)else(none))else(none))else(none))else(spec_RxOk.l0 k x3 x4 (wrap64 (x5+1)) x102000))else(none))else(none)
def spec_RxOk.l2:Nat→Int→List Int→List Int→Int→List (S196)→Option (Bool)
 |0,_,_,_,_,_=>none
 |k+1,x3,x4,x7,x8,x102000=>if x8≥0 then(if x8<(wrap64 (x3-1))then(if 0≤x8 then(if x8<(x4.length:Int)then(if(rd x4 x8)=1 then(if x8<(x7.length:Int)then(spec_RxOk.j4 k x3 x4 x7 x8 (decide ((rd x7 x8)>150)) x102000)else(none))else(spec_RxOk.j4 k x3 x4 x7 x8 true x102000))else(none))else(none))else(if 0≤x8 then(if x8<(x7.length:Int)then(spec_RxOk.j4 k x3 x4 x7 x8 (decide ((rd x7 x8)>150)) x102000)else(none))else(none)))else(some true)
def spec_RxOk.j4:Nat→Int→List Int→List Int→Int→Bool→List (S196)→Option (Bool)
 |0,_,_,_,_,_,_=>none
 |k+1,x3,x4,x7,x8,x84,x102000=>if x84=true then(some false)else(spec_RxOk.l3 k x3 x4 x7 x8 0 x102000)
def spec_RxOk.l3:Nat→Int→List Int→List Int→Int→Int→List (S196)→Option (Bool)
 |0,_,_,_,_,_,_=>none
 |k+1,x3,x4,x7,x8,x9,x102000=>if 0≤x8 then(if x8<(x102000.length:Int)then(if x9<(((rd_T196 x102000 x8).f2).length:Int)then(if 0≤x9 then(if x8<(x7.length:Int)then(if 0≤(rd ((rd_T196 x102000 x8).f2) x9)then(if(rd ((rd_T196 x102000 x8).f2) x9)<(x7.length:Int)then(spec_RxOk.l3 k x3 x4 (x7.set ((rd ((rd_T196 x102000 x8).f2) x9):Int).toNat (wrap64 ((rd x7 x8)+1))) x8 (wrap64 (x9+1)) x102000)else(none))else(none))else(none))else(none))else(spec_RxOk.l2 k x3 x4 x7 (wrap64 (x8-1)) x102000))else(none))else(none)
end
def spec_RxOk.f(k:Nat)(l0_0:List (S196)):Option (Bool):=if(l0_0.length:Int)<1 then(spec_RxOk.j0 k (l0_0.length:Int) true l0_0)else(spec_RxOk.j0 k (l0_0.length:Int) (decide ((l0_0.length:Int)>300)) l0_0)
def spec_RxOk.T23:Bool × List (List Nat × List Nat):=(true,[([],[]),([],[]),([1],[1]),([],[]),([2,3],[2,3]),([4],[4]),([5],[5]),([],[]),([6,7],[6,7]),([8],[8]),([],[]),([],[]),([10,11],[10,11]),([12],[12]),([13],[13]),([0,9,0,1,2,3,4,5,6,7,8,9,10,11,12,13,14],[0,9]),([15,14,0,1,2,3,4,5,6,7,8,9,10,11,12,13,14],[14,15])])
def spec_RxOk.B23:List Nat:=[0,0,2,0,14,30,62,0,254,510,0,0,3072,7168,15360,32767,65535]
theorem spec_RxOk.tab23:rtab .any (opsOf Try.f133 23)=spec_RxOk.T23:=by kernel_rfl
theorem spec_RxOk.bits23:waitsOk spec_RxOk.T23.2 spec_RxOk.B23=true:=by kernel_rfl
theorem spec_RxOk.calls(k:Nat)(A0_0:Option Addr)(c0_0:Nat)(l0_0:List (S196))(r:Bool)(w:World)(hr0_0:Kd.C k196 w A0_0 l0_0.length l0_0)(hc0_0:l0_0.length≤c0_0)(h:spec_RxOk.f k l0_0=some r):
  Calls Try.prog 133 #[.agg #[.slice A0_0 l0_0.length c0_0]] w fun e w'=>e= .returned (.bool r)∧Below w.heap.size w w':=by
 have hu67:=Try.underlying67;have hu196:=Try.underlying196;have HR0_0:=q_ hr0_0;have HC0_0:=q_ hc0_0;clear hr0_0 hc0_0;have HB:=q_ (Below.refl w.heap.size w);have H:(if(l0_0.length:Int)<1 then(spec_RxOk.j0 k (l0_0.length:Int) true l0_0)else(spec_RxOk.j0 k (l0_0.length:Int) (decide ((l0_0.length:Int)>300)) l0_0))=some r:=h;clear h;have HC2:=q_ H;clear H;go_enter Try.func133,Try.ntmps133;go_upto_region 2 with(((with_reducible refine gate_dst (N:=1) rfl ?_);refine bx_ 1 #[.slice A0_0 l0_0.length c0_0] 67 ?_;intro gb101 hg w3 hbox hb;have Q101:=q_ (hbox);have G101:=ge_ hg HB;replace HB:=sb_ HB hb;clear hb hbox hg;obtain⟨z4_0,y4_0⟩:=d1_ Q101))
 go_cut [18] (fun v18 wc=>∃(kq:Nat) (x18_1:Bool),v18= .bool x18_1∧J0 (spec_RxOk.j0 kq (l0_0.length:Int) x18_1 l0_0=some r)∧J0 (kq≤k)∧J0 (wc.heap[gb101]? =some (.cells #[(.slice A0_0 l0_0.length c0_0)] 67 (0,0)))∧J0 (Below w.heap.size w wc))
 case first=>
  have H:=HC2.o;clear HC2;by_cases c5:(l0_0.length:Int)<1
  ·rw[iP c5]at H;have c5b0:=dt_ c5;have c5b1:decide (l0_0.length<1)=true:=decide_eq_true (by omega);clear c5
   (skip)
   have H':=q_ H;clear H;go_wp2;go_meet
   case rel=>exact⟨_,(true),rs_,H',⟨by omega⟩,⟨bk_ Q101.o⟩,⟨be1_ HB.o G101.o⟩⟩
  rw[iN c5]at H;have c5b0:=df_ c5;have c5b1:decide (l0_0.length<1)=false:=decide_eq_false (by omega);clear c5
  (skip)
  have H':=q_ H;clear H;go_wp2;go_meet
  case rel=>exact⟨_,(decide ((l0_0.length:Int)>300)),rs_,H',⟨by omega⟩,⟨bk_ Q101.o⟩,⟨be1_ HB.o G101.o⟩⟩
 case rest =>
  clear HC2 z4_0 y4_0;obtain⟨kq,x18_1,rfl,HA,HJ1,Q101,HB⟩:=hcut;cases kq with
  |zero=>exact absurd HA.o (by simp[spec_RxOk.j0])
  | succ kj1=>
   have H:=HA.o;clear HA;simp only[spec_RxOk.j0]at H;by_cases c6:x18_1=true
   ·subst c6;rw[iP rfl]at H;obtain rfl:=Option.some.inj H;go_wp2
    go_ret
    exact⟨rt_,be1_ HB.o G101.o⟩
   replace c6:=Bool.eq_false_iff.mpr c6;subst c6;rw[iN nft_]at H;obtain⟨c7,H⟩:=ip_ H;have c7b0:=eq_true c7;have c7b1:=dt_ c7;clear c7;obtain⟨c8,H⟩:=ip_ H;have c8b0:=eq_true c8;have c8b1:=dt_ c8;clear c8;generalize hy102:(List.replicate ((l0_0.length:Int):Int).toNat 0:List Int)=y102 at H;have Ny102:=q_ hy102.symm;clear hy102;have H':=q_ H;clear H
   go_wp2_with(((with_reducible refine gate_dst (N:=20) rfl ?_);refine Kd.R_make (Kd.int .i64) _ 3 rfl (N:=20) rfl 167 _ _ rfl (l0_0.length:Int) rfl rfl Try.underlying167 (.int .i64 0) 8 info3 rfl (by decide) (by omega) 0 (ok:=fun _=>True) (okp:=fun _=>True) rfl (fun _ hk=>hk) trivial (ot_ as_) (Nat.le_trans (Nat.mul_le_mul_right _ (ot_ as_:(l0_0.length:Int).toNat≤35184372088832)) (by omega)) (Below.refl _ _) (Nat.le_refl _) ?_;intro v103 w9 ho10 hb hg_ hnew_;clear hg_ hnew_;(rw[←Ny102.o]at ho10);have O104:=q_ (Kd.R_lower ho10 (below_size (be1_ HB.o G101.o)));replace Q101:=lb_ Q101 hb;replace HB:=sb1_ HB G101 hb;clear hb ho10))
   go_loopg [5] kj1 (fun kq v5 w'=>∃(x4_2:List Int) (x5_2:Int),v5= .int .i64 x5_2∧J0 (spec_RxOk.l0 kq (l0_0.length:Int) x4_2 x5_2 l0_0=some r)∧J0 (kq≤kj1)∧J0 (Kd.R (Kd.int .i64) 3 w' w.heap.size (fun _=>True) v103 x4_2)∧J0 (w'.heap[gb101]? =some (.cells #[(.slice A0_0 l0_0.length c0_0)] 67 (0,0)))∧J0 (Below w.heap.size w w'))
   case atStart=>exact⟨(y102),(0),rs_,H',⟨Nat.le_refl _⟩,⟨ra_ O104.o⟩,⟨bk_ Q101.o⟩,⟨be1_ HB.o G101.o⟩⟩
   case round=>
    clear H';clear c7b0 c7b1 c8b0 c8b1;obtain⟨x4_2,x5_2,rfl,HA,HK2,O_4,Q101,HB⟩:=hrel;cases gk with
    |zero=>exact absurd HA.o (by simp[spec_RxOk.l0])
    | succ k2=>
     have H:=HA.o;clear HA;simp only[spec_RxOk.l0]at H;by_cases c11:x5_2<(l0_0.length:Int)
     ·rw [iP c11]at H;have d11:=dt_ c11;clear c11;obtain⟨d12,H⟩:=iq_ H;obtain⟨d13,H⟩:=iq_ H;obtain⟨t106,A14,H⟩:=ob_ H;obtain⟨z16_0,y16_0⟩:=d1_ Q101;obtain⟨p105,q105⟩:=pq_ x5_2 (l0_0.length:Int);obtain⟨ad105,A105_1,c105_1,A105_2,c105_2,e105,X105_0,X105_1,X105_2,X105_3,X105_4,hl105_1,hi105_1,hl105_2,hi105_2⟩:=at_T196 HR0_0.o x5_2 p105 q105;cases e105;replace X105_0:=mv_ HB.o X105_0;replace X105_1:=mv_ HB.o X105_1;replace X105_2:=mv_ HB.o X105_2;replace X105_3:=mv_ HB.o X105_3;replace X105_4:=mv_ HB.o X105_4;have HR105_1:=q_ hi105_1;have HC105_1:=q_ hl105_1;have HR105_2:=q_ hi105_2;have HC105_2:=q_ hl105_2;obtain⟨p105,q105⟩:=et_ p105 q105;by_cases c15:t106=true;rotate_left
      ·replace c15:=Bool.eq_false_iff.mpr c15;subst c15;rw[iN nft_]at H;obtain rfl:=Option.some.inj H;clear hi105_1 hl105_1;clear hi105_2 hl105_2
       go_wp2_with(((with_reducible refine gate_callee (f:=143) rfl ?_);refine gl_ (some 32) rfl rfl Try.func143 #[.agg #[.int .i64 ((rd_T196 l0_0 x5_2).f0), .slice A105_1 ((rd_T196 l0_0 x5_2).f1).length c105_1, .slice A105_2 ((rd_T196 l0_0 x5_2).f2).length c105_2, .int .i64 ((rd_T196 l0_0 x5_2).f3), .int .i64 ((rd_T196 l0_0 x5_2).f4)], .int .i64 x5_2] ?_;(with_reducible refine(spec_l3Node.calls k2 ((rd_T196 l0_0 x5_2).f0) _ _ ((rd_T196 l0_0 x5_2).f1) _ _ ((rd_T196 l0_0 x5_2).f2) ((rd_T196 l0_0 x5_2).f3) ((rd_T196 l0_0 x5_2).f4) x5_2 false _ ?side1 ?side2 ?side3 ?side4 A14.o).mono ?_);(case side1=>exact Kd.C_below HR105_1.o (be_ HB.o));(case side2=>exact HC105_1.o);(case side3=>exact Kd.C_below HR105_2.o (be_ HB.o));(case side4=>exact HC105_2.o);rintro e w31 ⟨rfl,hb⟩;refine⟨_,rfl,?_⟩;replace O_4:=bR_ O_4 hb;replace Q101:=lb_ Q101 hb;replace HB:=sb1_ HB G101 hb;clear hb))
       go_ret
       exact⟨rt_,be1_ HB.o G101.o⟩
      subst c15;rw[iP rfl]at H;have H':=q_ H;clear H;clear hi105_1 hl105_1;clear hi105_2 hl105_2
      go_wp2_with(((with_reducible refine gate_callee (f:=143) rfl ?_);refine gl_ (some 32) rfl rfl Try.func143 #[.agg #[.int .i64 ((rd_T196 l0_0 x5_2).f0), .slice A105_1 ((rd_T196 l0_0 x5_2).f1).length c105_1, .slice A105_2 ((rd_T196 l0_0 x5_2).f2).length c105_2, .int .i64 ((rd_T196 l0_0 x5_2).f3), .int .i64 ((rd_T196 l0_0 x5_2).f4)], .int .i64 x5_2] ?_;(with_reducible refine(spec_l3Node.calls k2 ((rd_T196 l0_0 x5_2).f0) _ _ ((rd_T196 l0_0 x5_2).f1) _ _ ((rd_T196 l0_0 x5_2).f2) ((rd_T196 l0_0 x5_2).f3) ((rd_T196 l0_0 x5_2).f4) x5_2 true _ ?side1 ?side2 ?side3 ?side4 A14.o).mono ?_);(case side1=>exact Kd.C_below HR105_1.o (be_ HB.o));(case side2=>exact HC105_1.o);(case side3=>exact Kd.C_below HR105_2.o (be_ HB.o));(case side4=>exact HC105_2.o);rintro e w17 ⟨rfl,hb⟩;refine⟨_,rfl,?_⟩;replace O_4:=bR_ O_4 hb;replace Q101:=lb_ Q101 hb;replace HB:=sb1_ HB G101 hb;clear hb))
      go_loopg [6] k2 (fun kq v6 w'=>∃(x4_3:List Int) (x6_3:Int),v6= .int .i64 x6_3∧J0 (spec_RxOk.l1 kq (l0_0.length:Int) x4_3 x5_2 x6_3 l0_0=some r)∧J0 (kq≤k2)∧J0 (Kd.R (Kd.int .i64) 3 w' w.heap.size (fun _=>True) v103 x4_3)∧J0 (w'.heap[gb101]? =some (.cells #[(.slice (some ad105) l0_0.length c0_0)] 67 (0,0)))∧J0 (Below w.heap.size w w'))
      case atStart=>exact⟨(x4_2),(0),rs_,H',⟨Nat.le_refl _⟩,⟨ra_ O_4.o⟩,⟨bk_ Q101.o⟩,⟨be1_ HB.o G101.o⟩⟩
      case round=>
       clear H';clear d11 d12 d13 z16_0 y16_0 X105_0 X105_1 X105_2 X105_3 X105_4 p105 q105;obtain⟨x4_3,x6_3,rfl,HA,HK3,O_4,Q101,HB⟩:=hrel;cases gk with
       |zero=>exact absurd HA.o (by simp[spec_RxOk.l1])
       | succ k3=>
        have H:=HA.o;clear HA;simp only[spec_RxOk.l1]at H;obtain⟨d18,H⟩:=iq_ H;obtain⟨d19,H⟩:=iq_ H;obtain⟨z25_0,y25_0⟩:=d1_ Q101;obtain⟨p107,q107⟩:=pq_ x5_2 (l0_0.length:Int);obtain⟨ad107,A107_1,c107_1,A107_2,c107_2,e107,X107_0,X107_1,X107_2,X107_3,X107_4,hl107_1,hi107_1,hl107_2,hi107_2⟩:=at_T196 HR0_0.o x5_2 p107 q107;obtain rfl:ad105=ad107:=(by injection e107);replace X107_0:=mv_ HB.o X107_0;replace X107_1:=mv_ HB.o X107_1;replace X107_2:=mv_ HB.o X107_2;replace X107_3:=mv_ HB.o X107_3;replace X107_4:=mv_ HB.o X107_4;have HR107_1:=q_ hi107_1;have HC107_1:=q_ hl107_1;have HR107_2:=q_ hi107_2;have HC107_2:=q_ hl107_2;obtain⟨p107,q107⟩:=et_ p107 q107;by_cases c20:x6_3<(((rd_T196 l0_0 x5_2).f2).length:Int);rotate_left
        ·rw[iN c20]at H;have d20:=df_ c20;clear c20;have H':=q_ H;clear H;clear hi107_1 hl107_1;clear hi107_2 hl107_2;go_wp2
         go_roundg k3
         case measure=>have:=HJ1.o;have:=HK2.o;have:=HK3.o;omega
         case rel=>exact⟨(x4_3),(wrap64 (x5_2+1)),rs_,H',⟨by have:=HJ1.o;have:=HK2.o;have:=HK3.o;omega⟩,⟨ra_ O_4.o⟩,⟨bk_ Q101.o⟩,⟨be1_ HB.o G101.o⟩⟩
        rw[iP c20]at H;have d20:=dt_ c20;clear c20;obtain⟨d21,H⟩:=iq_ H;obtain⟨d22,H⟩:=iq_ H;obtain⟨d23,H⟩:=iq_ H;generalize hy111:(x4_3.set ((rd ((rd_T196 l0_0 x5_2).f2) x6_3):Int).toNat (wrap64 ((rd x4_3 (rd ((rd_T196 l0_0 x5_2).f2) x6_3))+1)):List Int)=y111 at H;have Ny111:=q_ hy111.symm;clear hy111;have H':=q_ H;clear H;clear hi107_1 hl107_1;clear hi107_2 hl107_2;obtain⟨p109,q109⟩:=pq_ x6_3 (((rd_T196 l0_0 x5_2).f2).length:Int);obtain⟨ad109,e109,X109_0⟩:=Kd.at_int HR107_2.o x6_3 p109 q109;cases e109;replace X109_0:=mv_ HB.o X109_0;obtain⟨p109,q109⟩:=et_ p109 q109;obtain⟨Ao26,co26,eo26⟩:=Kd.R_slice O_4.o;subst eo26;obtain⟨p110,q110⟩:=pq_ (rd ((rd_T196 l0_0 x5_2).f2) x6_3) (x4_3.length:Int);obtain⟨ad110,e110,X110_0⟩:=Kd.at_int (Kd.R_reads' O_4.o).2.2 (rd ((rd_T196 l0_0 x5_2).f2) x6_3) p110 q110;cases e110;obtain⟨p110,q110⟩:=et_ p110 q110;obtain⟨p24,q24⟩:=pq_ (rd ((rd_T196 l0_0 x5_2).f2) x6_3) ((x4_3.length:Int):Int);obtain⟨go24,co24,eo24,gb24,gl24,cl24,HG24⟩:=Kd.R_form O_4.o (by omega);(cases eo24);have GB24:=q_ gb24;have GG24:=q_ HG24;clear gb24 gl24 HG24
        (simp only[add_plain]at X110_0)
        obtain⟨X24_0,hf24_0⟩:=Kd.R_celln 0 O_4.o ((rd ((rd_T196 l0_0 x5_2).f2) x6_3):Int) p24 q24;obtain⟨p24,q24⟩:=et_ p24 q24;have HP27:=Kd.R_putg O_4.o ((rd ((rd_T196 l0_0 x5_2).f2) x6_3):Int) (wrap64 ((rd x4_3 (rd ((rd_T196 l0_0 x5_2).f2) x6_3))+1))
        go_wp2_with(((with_reducible refine gate_store (t:=3) (p:=58) rfl ?_);refine store_event (t:=3) (p:=58) (v:=?vo_w28) (w1:=(wr.setCell ⟨go24,((rd ((rd_T196 l0_0 x5_2).f2) x6_3):Int).toNat,none⟩ (.int .i64 (wrap64 ((rd x4_3 (rd ((rd_T196 l0_0 x5_2).f2) x6_3))+1))))) ?hg ?ho ?hn ?hr ?_;(case ho=>rfl);(case hg=>rfl);(case hn=>rfl);(case hr=>first| (go_simp;done)| (go_simp;rfl));intro w28 hw;have hg:wr.grownBy w28 (some go24):=(by rw[hw];exact HP27.2);have hp_:Kd.R (Kd.int .i64) 3 w28 w.heap.size (fun _=>True) (.slice (some ⟨go24,0,none⟩) x4_3.length co26) y111:=(by rw[hw,Ny111.o];exact HP27.1);clear HP27;replace Q101:=bg_ Q101 hg (Kd.R_ne O_4.o Q101.o (by decide));replace O_4:=q_ (hp_);replace HB:=q_ ((by rw[hw];exact below_set (HB.o) GB24.out:Below w.heap.size w w28));clear hg hw hp_))
        go_roundg k3
        case measure=>have:=HJ1.o;have:=HK2.o;have:=HK3.o;omega
        case rel=>exact⟨(y111),(wrap64 (x6_3+1)),rs_,H',⟨by have:=HJ1.o;have:=HK2.o;have:=HK3.o;omega⟩,⟨ra_ O_4.o⟩,⟨bk_ Q101.o⟩,⟨be1_ HB.o G101.o⟩⟩
     rw[iN c11]at H;have d11:=df_ c11;clear c11;obtain⟨c32,H⟩:=ip_ H;have d32:=eq_true c32;have c32b1:=dt_ c32;clear c32;obtain⟨c33,H⟩:=ip_ H;have d33:=eq_true c33;have c33b1:=dt_ c33;clear c33;generalize hy112:(List.replicate ((l0_0.length:Int):Int).toNat 0:List Int)=y112 at H;have Ny112:=q_ hy112.symm;clear hy112;have H':=q_ H;clear H
     go_wp2_with(((with_reducible refine gate_dst (N:=60) rfl ?_);refine Kd.R_make (Kd.int .i64) _ 3 rfl (N:=60) rfl 167 _ _ rfl (l0_0.length:Int) rfl rfl Try.underlying167 (.int .i64 0) 8 info3 rfl (by decide) (by omega) 0 (ok:=fun _=>True) (okp:=fun _=>True) rfl (fun _ hk=>hk) trivial (ot_ as_) (Nat.le_trans (Nat.mul_le_mul_right _ (ot_ as_:(l0_0.length:Int).toNat≤35184372088832)) (by omega)) (Below.refl _ _) (Nat.le_refl _) ?_;intro v113 w34 ho35 hb hg_ hnew_;clear hg_ hnew_;(rw[←Ny112.o]at ho35);have O114:=q_ (Kd.R_lower (Kd.R_new' ho35 (Kd.R_lt (ra_ O_4.o))) (below_size (be1_ HB.o G101.o)));replace O_4:=eR_ O_4 (Kd.R_base ho35) hb;replace Q101:=lb_ Q101 hb;replace HB:=sb1_ HB G101 hb;clear hb ho35))
     go_loopg [8] k2 (fun kq v8 w'=>∃(x7_3:List Int) (x8_3:Int),v8= .int .i64 x8_3∧J0 (spec_RxOk.l2 kq (l0_0.length:Int) x4_2 x7_3 x8_3 l0_0=some r)∧J0 (kq≤k2)∧J0 (Kd.R (Kd.int .i64) 3 w' w.heap.size (fun k_=>some k_≠(v113:Value).ownBlock) v103 x4_2)∧J0 (Kd.R (Kd.int .i64) 3 w' w.heap.size (fun k_=>some k_≠(v103:Value).ownBlock) v113 x7_3)∧J0 (w'.heap[gb101]? =some (.cells #[(.slice A0_0 l0_0.length c0_0)] 67 (0,0)))∧J0 (Below w.heap.size w w'))
     case atStart=>exact⟨(y112),(wrap64 ((l0_0.length:Int)-1)),rs_,H',⟨Nat.le_refl _⟩,⟨mR_ O_4 (fun _ hk=>hk.2)⟩,⟨mR_ O114 (fun _ hk=>hk.2)⟩,⟨bk_ Q101.o⟩,⟨be1_ HB.o G101.o⟩⟩
     case round=>
      clear H';clear d11 d32 c32b1 d33 c33b1;obtain⟨x7_3,x8_3,rfl,HA,HK3,O_4,O_7,Q101,HB⟩:=hrel;cases gk with
      |zero=>exact absurd HA.o (by simp[spec_RxOk.l2])
      | succ k3=>
       have H:=HA.o;clear HA;simp only[spec_RxOk.l2]at H;by_cases c36:x8_3≥0;rotate_left
       ·rw[iN c36]at H;have d36:decide (0≤x8_3)=false:=df_ c36;clear c36;obtain rfl:=Option.some.inj H;go_wp2
        go_ret
        exact⟨rt_,be1_ HB.o G101.o⟩
       rw[iP c36]at H;have d36:decide (0≤x8_3)=true:=dt_ c36;clear c36;have HC37:=q_ H;clear H;go_upto_region 18 with(fail)
       go_cut [84] (fun v84 wc=>∃(kq:Nat) (x84_36:Bool),v84= .bool x84_36∧J0 (spec_RxOk.j4 kq (l0_0.length:Int) x4_2 x7_3 x8_3 x84_36 l0_0=some r)∧J0 (kq≤k3)∧J0 (Kd.R (Kd.int .i64) 3 wc w.heap.size (fun k_=>some k_≠(v113:Value).ownBlock) v103 x4_2)∧J0 (Kd.R (Kd.int .i64) 3 wc w.heap.size (fun k_=>some k_≠(v103:Value).ownBlock) v113 x7_3)∧J0 (wc.heap[gb101]? =some (.cells #[(.slice A0_0 l0_0.length c0_0)] 67 (0,0)))∧J0 (Below w.heap.size w wc))
       case first=>
        have H:=HC37.o;clear HC37;by_cases c38:x8_3<(wrap64 ((l0_0.length:Int)-1));rotate_left
        ·rw[iN c38]at H;have d38:=df_ c38;clear c38
         (skip)
         obtain⟨d46,H⟩:=iq_ H;obtain⟨d47,H⟩:=iq_ H;have H':=q_ H;clear H;obtain⟨Ao48,co48,eo48⟩:=Kd.R_slice O_7.o;subst eo48;obtain⟨p117,q117⟩:=pq_ x8_3 (x7_3.length:Int);obtain⟨ad117,e117,X117_0⟩:=Kd.at_int (Kd.R_reads' O_7.o).2.2 x8_3 p117 q117;cases e117;obtain⟨p117,q117⟩:=et_ p117 q117;go_wp2;go_meet
         case rel=>exact⟨_,(decide ((rd x7_3 x8_3)>150)),rs_,H',⟨by have:=HJ1.o;have:=HK2.o;have:=HK3.o;first|omega|exact Nat.le_refl _⟩,⟨ra_ O_4.o⟩,⟨ra_ O_7.o⟩,⟨bk_ Q101.o⟩,⟨be1_ HB.o G101.o⟩⟩
        rw[iP c38]at H;have d38:=dt_ c38;clear c38
        (skip)
        obtain⟨d39,H⟩:=iq_ H;obtain⟨d40,H⟩:=iq_ H;by_cases c41:(rd x4_2 x8_3)=1;rotate_left
        ·rw[iN c41]at H;have d41:((rd x4_2 x8_3)==1)=false:=beq_eq_false_iff_ne.mpr c41;have c41b1:((rd x4_2 x8_3) != 1)=true:=bne_iff_ne.mpr c41;have H':=q_ H;clear H;obtain⟨Ao45,co45,eo45⟩:=Kd.R_slice O_4.o;subst eo45;obtain⟨p115,q115⟩:=pq_ x8_3 (x4_2.length:Int);obtain⟨ad115,e115,X115_0⟩:=Kd.at_int (Kd.R_reads' O_4.o).2.2 x8_3 p115 q115;cases e115;obtain⟨p115,q115⟩:=et_ p115 q115;go_wp2
         go_meet
         case rel=>exact⟨_,(true),rs_,H',⟨by have:=HJ1.o;have:=HK2.o;have:=HK3.o;first|omega|exact Nat.le_refl _⟩,⟨ra_ O_4.o⟩,⟨ra_ O_7.o⟩,⟨bk_ Q101.o⟩,⟨be1_ HB.o G101.o⟩⟩
        rw[iP c41]at H;have d41:((rd x4_2 x8_3)==1)=true:=beq_iff_eq.mpr c41;have c41b1:((rd x4_2 x8_3) != 1)=false:=bne_eq_false_iff_eq.mpr c41;clear c41;obtain⟨d42,H⟩:=iq_ H;have H':=q_ H;clear H;obtain⟨Ao43,co43,eo43⟩:=Kd.R_slice O_4.o;subst eo43;obtain⟨p115,q115⟩:=pq_ x8_3 (x4_2.length:Int);obtain⟨ad115,e115,X115_0⟩:=Kd.at_int (Kd.R_reads' O_4.o).2.2 x8_3 p115 q115;cases e115;obtain⟨p115,q115⟩:=et_ p115 q115;obtain⟨Ao44,co44,eo44⟩:=Kd.R_slice O_7.o;subst eo44;obtain⟨p116,q116⟩:=pq_ x8_3 (x7_3.length:Int);obtain⟨ad116,e116,X116_0⟩:=Kd.at_int (Kd.R_reads' O_7.o).2.2 x8_3 p116 q116;cases e116;obtain⟨p116,q116⟩:=et_ p116 q116;go_wp2;go_meet
        case rel=>exact⟨_,(decide ((rd x7_3 x8_3)>150)),rs_,H',⟨by have:=HJ1.o;have:=HK2.o;have:=HK3.o;first|omega|exact Nat.le_refl _⟩,⟨ra_ O_4.o⟩,⟨ra_ O_7.o⟩,⟨bk_ Q101.o⟩,⟨be1_ HB.o G101.o⟩⟩
       case rest=>
        clear HC37 d36;obtain⟨kq,x84_36,rfl,HA,HJ36,O_4,O_7,Q101,HB⟩:=hcut;cases kq with
        |zero=>exact absurd HA.o (by simp[spec_RxOk.j4])
        | succ kj36=>
         have H:=HA.o;clear HA;simp only[spec_RxOk.j4]at H;by_cases c49:x84_36=true
         ·subst c49;rw[iP rfl]at H;obtain rfl:=Option.some.inj H;go_wp2
          go_ret
          exact⟨rt_,be1_ HB.o G101.o⟩
         replace c49:=Bool.eq_false_iff.mpr c49;subst c49;rw[iN nft_]at H;have H':=q_ H;clear H;go_wp2
         go_loopg [9] kj36 (fun kq v9 w'=>∃(x7_5:List Int) (x9_5:Int),v9= .int .i64 x9_5∧J0 (spec_RxOk.l3 kq (l0_0.length:Int) x4_2 x7_5 x8_3 x9_5 l0_0=some r)∧J0 (kq≤kj36)∧J0 (Kd.R (Kd.int .i64) 3 w' w.heap.size (fun k_=>some k_≠(v113:Value).ownBlock) v103 x4_2)∧J0 (Kd.R (Kd.int .i64) 3 w' w.heap.size (fun k_=>some k_≠(v103:Value).ownBlock) v113 x7_5)∧J0 (w'.heap[gb101]? =some (.cells #[(.slice A0_0 l0_0.length c0_0)] 67 (0,0)))∧J0 (Below w.heap.size w w'))
         case atStart=>exact⟨(x7_3),(0),rs_,H',⟨Nat.le_refl _⟩,⟨ra_ O_4.o⟩,⟨ra_ O_7.o⟩,⟨bk_ Q101.o⟩,⟨be1_ HB.o G101.o⟩⟩
         case round=>
          clear H';obtain⟨x7_5,x9_5,rfl,HA,HK5,O_4,O_7,Q101,HB⟩:=hrel;cases gk with
          |zero=>exact absurd HA.o (by simp[spec_RxOk.l3])
          | succ k5=>
           have H:=HA.o;clear HA;simp only[spec_RxOk.l3]at H;obtain⟨d50,H⟩:=iq_ H;obtain⟨d51,H⟩:=iq_ H;obtain⟨z58_0,y58_0⟩:=d1_ Q101;obtain⟨p118,q118⟩:=pq_ x8_3 (l0_0.length:Int);obtain⟨ad118,A118_1,c118_1,A118_2,c118_2,e118,X118_0,X118_1,X118_2,X118_3,X118_4,hl118_1,hi118_1,hl118_2,hi118_2⟩:=at_T196 HR0_0.o x8_3 p118 q118;cases e118;replace X118_0:=mv_ HB.o X118_0;replace X118_1:=mv_ HB.o X118_1;replace X118_2:=mv_ HB.o X118_2;replace X118_3:=mv_ HB.o X118_3;replace X118_4:=mv_ HB.o X118_4;have HR118_1:=q_ hi118_1;have HC118_1:=q_ hl118_1;have HR118_2:=q_ hi118_2;have HC118_2:=q_ hl118_2;obtain⟨p118,q118⟩:=et_ p118 q118;by_cases c52:x9_5<(((rd_T196 l0_0 x8_3).f2).length:Int);rotate_left
           ·rw[iN c52]at H;have d52:=df_ c52;clear c52;have H':=q_ H;clear H;clear hi118_1 hl118_1;clear hi118_2 hl118_2;go_wp2
            go_roundg k5
            case measure=>have:=HJ1.o;have:=HK2.o;have:=HK3.o;have:=HJ36.o;have:=HK5.o;omega
            case rel=>exact⟨(x7_5),(wrap64 (x8_3-1)),rs_,H',⟨by have:=HJ1.o;have:=HK2.o;have:=HK3.o;have:=HJ36.o;have:=HK5.o;omega⟩,⟨ra_ O_4.o⟩,⟨ra_ O_7.o⟩,⟨bk_ Q101.o⟩,⟨be1_ HB.o G101.o⟩⟩
           rw[iP c52]at H;have d52:=dt_ c52;clear c52;obtain⟨d53,H⟩:=iq_ H;obtain⟨d54,H⟩:=iq_ H;obtain⟨d55,H⟩:=iq_ H;obtain⟨d56,H⟩:=iq_ H;generalize hy122:(x7_5.set ((rd ((rd_T196 l0_0 x8_3).f2) x9_5):Int).toNat (wrap64 ((rd x7_5 x8_3)+1)):List Int)=y122 at H;have Ny122:=q_ hy122.symm;clear hy122;have H':=q_ H;clear H;clear hi118_1 hl118_1;clear hi118_2 hl118_2
           try go_wp2
           replace O_4:=q_ (Kd.R_drew O_4.o);replace O_7:=q_ (Kd.R_drew O_7.o);replace Q101:=q_ (blk_drew Q101.o);replace HB:=q_ (below_drew1 HB.o);obtain⟨p119,q119⟩:=pq_ x8_3 (l0_0.length:Int);obtain⟨ad119,A119_1,c119_1,A119_2,c119_2,e119,X119_0,X119_1,X119_2,X119_3,X119_4,hl119_1,hi119_1,hl119_2,hi119_2⟩:=at_T196 HR0_0.o x8_3 p119 q119;have hw119_4:=X119_4;have hw119_3:=X119_3;have hw119_2:=X119_2;have hw119_1:=X119_1;have hw119_0:=X119_0;obtain rfl:ad118=ad119:=(by injection e119);replace X119_0:=mv_ HB.o X119_0;replace X119_1:=mv_ HB.o X119_1;replace X119_2:=mv_ HB.o X119_2;replace X119_3:=mv_ HB.o X119_3;replace X119_4:=mv_ HB.o X119_4;have HR119_1:=q_ hi119_1;have HC119_1:=q_ hl119_1;clear hi119_1 hl119_1;have HR119_2:=q_ hi119_2;have HC119_2:=q_ hl119_2;clear hi119_2 hl119_2;obtain⟨p119,q119⟩:=et_ p119 q119;obtain⟨p120,q120⟩:=pq_ x9_5 (((rd_T196 l0_0 x8_3).f2).length:Int);obtain⟨ad120,e120,X120_0⟩:=Kd.at_int HR119_2.o x9_5 p120 q120;have hw120_0:=X120_0;cases e120;replace X120_0:=mv_ HB.o X120_0;obtain⟨p120,q120⟩:=et_ p120 q120;obtain⟨Ao60,co60,eo60⟩:=Kd.R_slice O_7.o
           (subst eo60)
           obtain⟨p121,q121⟩:=pq_ x8_3 (x7_5.length:Int);obtain⟨ad121,e121,X121_0⟩:=Kd.at_int (Kd.R_reads' O_7.o).2.2 x8_3 p121 q121;cases e121;obtain⟨p121,q121⟩:=et_ p121 q121;obtain⟨p57,q57⟩:=pq_ (rd ((rd_T196 l0_0 x8_3).f2) x9_5) ((x7_5.length:Int):Int);obtain⟨go57,co57,eo57,gb57,gl57,cl57,HG57⟩:=Kd.R_form O_7.o (by omega);(cases eo57);have GB57:=q_ gb57;have GG57:=q_ HG57;clear gb57 gl57 HG57
           (simp only[add_plain]at X121_0)
           obtain⟨X57_0,hf57_0⟩:=Kd.R_celln 0 O_7.o ((rd ((rd_T196 l0_0 x8_3).f2) x9_5):Int) p57 q57;obtain⟨p57,q57⟩:=et_ p57 q57;have HP61:=Kd.R_putn O_7.o ((rd ((rd_T196 l0_0 x8_3).f2) x9_5):Int) (wrap64 ((rd x7_5 x8_3)+1));rw[←Ny122.o]at HP61;have HQ61:=q_ HP61;clear HP61;refine start_ (n:=17) (S:=fun w'=>w'.cell? ⟨gb101,0,none⟩=some (.slice (some ad118) l0_0.length c0_0)∧w'.cell? (ad118.add ((x8_3).toNat*5))=some (.int .i64 ((rd_T196 l0_0 x8_3).f0))∧w'.cell? ⟨(ad118.add ((x8_3).toNat*5)).block,(ad118.add ((x8_3).toNat*5)).off+1,none⟩=some (.slice A119_1 ((rd_T196 l0_0 x8_3).f1).length c119_1)∧w'.cell? ⟨(ad118.add ((x8_3).toNat*5)).block,(ad118.add ((x8_3).toNat*5)).off+2,none⟩=some (.slice (some ad120) ((rd_T196 l0_0 x8_3).f2).length c119_2)∧w'.cell? ⟨(ad118.add ((x8_3).toNat*5)).block,(ad118.add ((x8_3).toNat*5)).off+3,none⟩=some (.int .i64 ((rd_T196 l0_0 x8_3).f3))∧w'.cell? ⟨(ad118.add ((x8_3).toNat*5)).block,(ad118.add ((x8_3).toNat*5)).off+4,none⟩=some (.int .i64 ((rd_T196 l0_0 x8_3).f4))∧w'.cell? (ad120.add (x9_5).toNat)=some (.int .i64 (rd ((rd_T196 l0_0 x8_3).f2) x9_5))∧w'.cell? ⟨go57,(x8_3).toNat,none⟩=some (.int .i64 (rd x7_5 x8_3))) (ds:=[16]) (bb 17 0) (by kernel_rfl) rfl rfl ⟨(blk_cell Q101.o 0).trans rfl,(mv_ HB.o hw119_0),(mv_ HB.o hw119_1),(mv_ HB.o hw119_2),(mv_ HB.o hw119_3),(mv_ HB.o hw119_4),(mv_ HB.o hw120_0),X121_0⟩ (fun hHeld=>?_);refine with_tabW spec_RxOk.tab23 spec_RxOk.bits23 (fun HT_ HW_=>?_);generalize wr.drew=w59 at O_4 O_7 Q101 HB GG57 HQ61 HR119_1 HR119_2 hf57_0 X119_0 X119_1 X119_2 X119_3 X119_4 X120_0 X121_0 X57_0 hHeld ⊢;refine pv_ 0 96 1 HT_.o ?_;refine pv_ 1 97 3 HT_.o ?_;refine pv_ 3 99 11 HT_.o ?_;refine pv_ 7 103 139 HT_.o ?_;refine pv_ 10 106 1163 HT_.o ?_;refine pv_ 11 107 3211 HT_.o ?_;refine pv_ 12 108 7307 HT_.o ?_;refine tv_ 2 98 7311 HT_.o HW_.o hHeld ?_;refine pv_ 4 100 7327 HT_.o ?_;refine pv_ 5 101 7359 HT_.o ?_;refine tv_ 6 102 7423 HT_.o HW_.o hHeld ?_;refine pv_ 8 104 7679 HT_.o ?_;refine tv_ 9 105 8191 HT_.o HW_.o hHeld ?_;refine tv_ 13 109 16383 HT_.o HW_.o hHeld ?_;refine pv_ 14 110 32767 HT_.o ?_;refine pv_ 15 111 65535 HT_.o ?_;refine last_ (i:=16) (N:=none) (bb 17 131071) rfl rfl (one_of HT_.o (by kernel_rfl)) (by decide) (fun K hK=>?_);refine skip_ (w1:=?_) (by rfl) rfl ?_ ?_;rotate_left
           ·go_simp
            rfl
           refine hK.out _ _ ?_;clear hK K;refine done_ (done_of HT_.o (by kernel_rfl)) ?_
           try go_wp2
           go_roundg k5
           case measure=>have:=HJ1.o;have:=HK2.o;have:=HK3.o;have:=HJ36.o;have:=HK5.o;omega
           case rel=>exact⟨(y122),(wrap64 (x9_5+1)),rs_,H',⟨by have:=HJ1.o;have:=HK2.o;have:=HK3.o;have:=HJ36.o;have:=HK5.o;omega⟩,⟨Kd.R_mono (rfR_ (Kd.R_mono O_4.o (fun k_ hk=>(⟨hk,fun e_=>hk (by rw[e_];rfl)⟩:_∧k_≠go57)))) (fun _ hk=>hk.1)⟩,⟨ra_ HQ61.o⟩,⟨by(with_reducible repeat(first|refine blk_drewN ?_ _|refine blk_drew ?_|refine blk_alloc ?_ _));refine blk_far ?_ (by have h_:=Kd.R_ne O_7.o Q101.o (by decide);intro e_;exact h_ (by rw[e_];rfl)) _;(with_reducible repeat(first|refine blk_drewN ?_ _|refine blk_drew ?_|refine blk_alloc ?_ _));exact Q101.o⟩,⟨be2_ HB.o GB57.o G101.o⟩⟩
end Go.Proofs.Ytlecpdpdcocibaa.P
namespace Go.Proofs.YtlecpdpdcocibaaEv
open Go.RowKit Go.Proofs.YtlecpdpdcocibaaW.PrintWords
set_option linter.unusedVariables false
set_option linter.unusedSimpArgs false
theorem ev_ite{α:Type}{c:Prop}[Decidable c]{a b:Nat→Option α}{r:α}:Ev (fun k=>if c then a k else b k) r↔(if c then Ev a r else Ev b r):=by
 by_cases h:c<;>simp[h]
theorem ev_some{α:Type}{a r:α}:Ev (fun _=>some a) r↔a=r:=by
 constructor
 ·rintro⟨K,h⟩
  exact Option.some.inj (h K (Nat.le_refl _))
 ·rintro rfl
  exact⟨0,fun _ _=>rfl⟩
theorem ev_succ{α:Type}{g:Nat→Option α}{r:α}:Ev g r↔Ev (fun k=>g (k+1)) r:=by
 constructor
 ·rintro⟨K,h⟩
  exact⟨K,fun k hk=>h (k+1) (by omega)⟩
 ·rintro⟨K,h⟩
  refine⟨K+1,fun k hk=>?_⟩;obtain⟨m,rfl⟩:∃m,k=m+1:=⟨k-1,by omega⟩;exact h m (by omega)
theorem ev_bind{α β:Type}{g:Nat→Option α}{f:Nat→α→Option β}{a:α}{r:β}(h:Ev g a):Ev (fun k=>(g k).bind (f k)) r↔Ev (fun k=>f k a) r:=by
 obtain⟨K,hK⟩:=h;constructor
 ·rintro⟨M,hM⟩
  refine⟨max K M,fun k hk=>?_⟩;have h1:(g k).bind (f k)=some r:=hM k (by omega);rw[hK k (by omega)]at h1;exact h1
 ·rintro⟨M,hM⟩
  refine⟨max K M,fun k hk=>?_⟩;show(g k).bind (f k)=some r
  rw[hK k (by omega)];exact hM k (by omega)
theorem ev_bind_some{α β:Type}{f:Nat→α→Option β}{a:α}{r:β}:Ev (fun k=>(some a).bind (f k)) r↔Ev (fun k=>f k a) r:=Iff.rfl
theorem ev_get{α:Type}{g:Nat→Option α}{r:α}(h:Ev g r):∃k,g k=some r:=by
 obtain⟨K,h⟩:=h;exact⟨K,h K (Nat.le_refl _)⟩
theorem ev_congr{α:Type}{g:Nat→Option α}{r s:α}(h:Ev g r)(e:r=s):Ev g s:=e ▸ h
theorem wrap_id{x:Int}(h0: -9223372036854775808≤x)(h1:x≤9223372036854775807):wrap64 x=x:=by
 unfold wrap64;omega
theorem wrap_succ{n m:Nat}(h:n<m)(hm:m≤9223372036854775807):wrap64 ((n:Int)+1)=((n+1:Nat):Int):=by
 rw[wrap_id (by omega) (by omega)];omega
theorem drop_cons{α:Type}(l:List α)(d:α)(i:Nat)(h:i<l.length):l.drop i=l.getD i d :: l.drop (i+1):=by
 rw[List.drop_eq_getElem_cons h,List.getD_eq_getElem?_getD,List.getElem?_eq_getElem h];rfl
theorem ev_loop{ρ:Type}(n:Nat)(L:Nat→Nat→Option ρ)(R:Nat→ρ)(hend:Ev (fun k=>L k n) (R n))(hstep:∀i,i<n→Ev (fun k=>L k (i+1)) (R (i+1))→Ev (fun k=>L k i) (R i)):∀i,i≤n→Ev (fun k=>L k i) (R i):=by
 have key:∀d i,i≤n→n-i=d→Ev (fun k=>L k i) (R i):=by
  intro d
  induction d with
  | zero=>
    intro i hi hd;have:i=n:=by omega
    subst this;exact hend
  | succ d ih=>
    intro i hi hd;exact hstep i (by omega) (ih (i+1) (by omega) (by omega))
 exact fun i hi=>key _ i hi rfl
theorem all_drop{α:Type}(l:List α)(d:α)(p:α→Bool)(i:Nat)(h:i<l.length):(l.drop i).all p=(p (l.getD i d)&&(l.drop (i+1)).all p):=by
 rw[drop_cons l d i h,List.all_cons]
def marked{α:Type}(f:Nat→α)(l:List α)(i:Nat):List α:=(List.range i).map f++l.drop i
theorem marked_length{α:Type}(f:Nat→α)(l:List α)(i:Nat)(h:i≤l.length):(marked f l i).length=l.length:=by
 simp[marked];omega
theorem marked_set{α:Type}(f:Nat→α)(l:List α)(i:Nat)(h:i<l.length):(marked f l i).set i (f i)=marked f l (i+1):=by
 unfold marked;have hl:((List.range i).map f).length=i:=by simp
 rw[List.set_append,iN (by omega),hl,Nat.sub_self,List.drop_eq_getElem_cons h,List.set_cons_zero,List.range_succ,List.map_append,List.append_assoc];rfl
theorem down(n:Nat)(P:Nat→Prop)(h0:P n)(hs:∀i,i<n→P (i+1)→P i):∀i,i≤n→P i:=by
 have key:∀d i,i≤n→n-i=d→P i:=by
  intro d
  induction d with
  | zero=>
    intro i hi hd;have:i=n:=by omega
    subst this;exact h0
  | succ d ih=>
    intro i hi hd;exact hs i (by omega) (ih (i+1) (by omega) (by omega))
 exact fun i hi=>key _ i hi rfl
def idxP{α:Type}(p:α→Bool):List α→Int→Int
 | [],_=> -1
 |x :: xs,i=>if p x then i else idxP p xs (i+1)
theorem idxP_ge{α:Type}(p:α→Bool)(xs:List α):∀i:Int,0≤i→(0≤idxP p xs i↔xs.any p=true):=by
 induction xs with
 |nil=>intro i _;simp[idxP]
 | cons x xs ih=>
   intro i hi;unfold idxP;by_cases h:p x=true
   ·simp[h,hi]
   ·simp[h,ih (i+1) (by omega)]
end Go.Proofs.YtlecpdpdcocibaaEv
namespace Go.Proofs.Ytlecpdpdcocibaa.P
open Go.RowKit Go.Shelf Go.Proofs.YtlecpdpdcocibaaW.PrintWords Go.Proofs.YtlecpdpdcocibaaW.PrintLast Go.Proofs.YtlecpdpdcocibaaW.PrintMore Go.Proofs.YtlecpdpdcocibaaEv
set_option linter.unusedVariables false
set_option linter.unusedSimpArgs false
def BdS(T:Nat)(w0 w:World)(ok:Nat→Prop)(g:Nat)(n:Int)(es:List S116)(en:List S138):Prop:=
 ∃v0 v1,w.heap[g]? =some (.cells #[.int .i64 n,v0,v1] T (0,0))∧w0.heap.size≤g∧Kd.S k116 116 w w0.heap.size ok v0 es∧Kd.R k138 138 w w0.heap.size ok v1 en
def KeepB(w w':World)(ok:Nat→Prop)(g:Nat):Prop:=w.heap.size≤w'.heap.size∧∀k,k<w.heap.size→k≠g→¬ok k→w'.heap[k]? =w.heap[k]?
section
variable {T:Nat} {w0 w W W2:World} {ok ok':Nat→Prop} {g:Nat} {n:Int} {es:List S116} {en:List S138}
theorem KeepB.refl:KeepB w w ok g:=⟨Nat.le_refl _,fun _ _ _ _=>rfl⟩
theorem KeepB.trans(h:KeepB w W ok g)(h2:KeepB W W2 ok g):KeepB w W2 ok g:=⟨Nat.le_trans h.1 h2.1,fun k hk hg ho=>(h2.2 k (Nat.lt_of_lt_of_le hk h.1) hg ho).trans (h.2 k hk hg ho)⟩
theorem KeepB.below(h:Below w.heap.size w W):KeepB w W ok g:=⟨h.size,fun k hk _ _=>h.block k hk⟩
theorem KeepB.weaken(h:KeepB w W ok' g)(hk:∀k,ok' k→ok k):KeepB w W ok g:=⟨h.1,fun k h1 h2 h3=>h.2 k h1 h2 (fun h4=>h3 (hk k h4))⟩
theorem KeepB.blk(h:KeepB w W ok g){b:Nat}{o:Obj}(hb:w.heap[b]? =some o)(hg:b≠g)(ho:¬ok b):W.heap[b]? =some o:=(h.2 b (blk_lt hb) hg ho).trans hb
theorem Bd_mono(h:BdS T w0 w ok g n es en)(hk:∀k,ok k→ok' k):BdS T w0 w ok' g n es en:=by
 obtain⟨v0,v1,h1,h2,h3,h4⟩:=h;exact⟨v0,v1,h1,h2,Kd.S_mono h3 hk,Kd.R_mono h4 hk⟩
theorem Bd_drew(h:BdS T w0 w ok g n es en):BdS T w0 w.drew ok g n es en:=by
 obtain⟨v0,v1,h1,h2,h3,h4⟩:=h;exact⟨v0,v1,blk_drew h1,h2,Kd.S_drew h3,Kd.R_drew h4⟩
theorem Bd_lt(h:BdS T w0 w ok g n es en):g<w.heap.size:=by
 obtain⟨v0,v1,h1,_⟩:=h;exact blk_lt h1
theorem Bd_own(h:BdS T w0 w ok g n es en):w0.heap.size≤g:=by
 obtain⟨v0,v1,_,h2,_⟩:=h;exact h2
theorem Bd_below(h:BdS T w0 w ok g n es en)(hb:Below w.heap.size w W):BdS T w0 W (fun k=>ok k∧(k<w.heap.size∨W.heap.size≤k)) g n es en:=by
 obtain⟨v0,v1,h1,h2,h3,h4⟩:=h;exact⟨v0,v1,blk_below h1 hb,h2,Kd.S_below (Kd.S_mono (Kd.S_bound h3) fun k hk=>⟨hk.1, .inl hk.2.2.1⟩) hb,Kd.R_below (Kd.R_mono (Kd.R_bound h4) fun k hk=>⟨hk.1, .inl hk.2.2.1⟩) hb⟩
theorem Bd_cells(h:BdS T w0 w ok g n es en):∃A c v1,es.length≤c∧w.cell? ⟨g,0,none⟩=some (.int .i64 n)∧w.cell? ⟨g,1,none⟩=some (.slice A es.length c)∧w.cell? ⟨g,2,none⟩=some v1∧w.frozen? ⟨g,0,none⟩=false:=by
 obtain⟨v0,v1,h1,h2,h3,h4⟩:=h;obtain⟨A,c,e,hl,_⟩:=Kd.S_reads h3;subst e;exact⟨A,c,v1,hl,(blk_cell h1 0).trans rfl,(blk_cell h1 1).trans rfl,(blk_cell h1 2).trans rfl,blk_frozen h1 0⟩
theorem Bd_size(h:BdS T w0 w ok g n es en)(hT:T≠116∧T≠138∧T≠163)(m:Int):BdS T w0 (w.setCell ⟨g,0,none⟩ (.int .i64 m)) ok g m es en:=by
 obtain⟨v0,v1,h1,h2,h3,h4⟩:=h;refine⟨v0,v1,(blk_set h1 0 _).trans rfl,h2,Kd.S_set h3 h1 ?_ 0 _,Kd.R_set h4 h1 ?_ 0 _⟩
 ·intro q hq
  rcases List.mem_cons.1 hq with rfl|hq
  ·exact Ne.symm hT.1
  ·rcases List.mem_cons.1 (show q∈ [163]from hq)with rfl|hq
   ·exact Ne.symm hT.2.2
   ·exact absurd hq List.not_mem_nil
 ·intro q hq
  rcases List.mem_cons.1 hq with rfl|hq
  ·exact Ne.symm hT.2.1
  ·exact absurd (show q∈([]:List Nat)from hq) List.not_mem_nil
theorem KeepB.set(j:Nat)(v:Value):KeepB w (w.setCell ⟨g,j,none⟩ v) ok g:=⟨by simp,fun k _ hg _=>Below.heap_setCell w _ _ k hg⟩
end
theorem infoEdge_:(Try.prog.info? 116).map (fun i=>(i.zero,i.size,i.bytes))=some (some (.agg #[(.int .i64 0),(.int .i64 0),(.slice none 0 0)]),3,40):=by kernel_rfl
theorem infoEnd_:(Try.prog.info? 138).map (fun i=>(i.zero,i.size,i.bytes))=some (some (.agg #[(.int .i64 0),(.int .i64 0)]),2,16):=by kernel_rfl
def fullB(n:Int)(es:List S116):Bool:=decide (n>3000)||decide ((es.length:Int)>12000)
theorem fullS_hand{w0:World}(ok:Nat→Prop)(g:Nat)(n:Int)(es:List S116)(en:List S138)(w:World)(hI:BdS 186 w0 w ok g n es en):
   Calls Try.prog 144 #[.pointer (some ⟨g,0,none⟩)] w fun e w'=>e= .returned (.bool (fullB n es))∧w=w':=by
 obtain⟨A,c,v1,hl,h0,h1,h2,hf⟩:=Bd_cells hI;clear hI;unfold fullB;by_cases c1:n>3000
 ·have e1:=dt_ c1
  rw[e1,Bool.true_or];clear c1;go_enter Try.func144,Try.ntmps144;go_wp2
  go_ret
  exact⟨rfl,rfl⟩
 ·have e1:=df_ c1
  rw[e1,Bool.false_or];clear c1;go_enter Try.func144,Try.ntmps144;go_wp2
  go_ret
  exact⟨by simp,rfl⟩
theorem stateS_hand{w0:World}(ok:Nat→Prop)(g:Nat)(n:Int)(es:List S116)(en:List S138)(w:World)(hI:BdS 186 w0 w ok g n es en)(hB:Below w0.heap.size w0 w)(hn:0≤n∧n≤1000000):
   Calls Try.prog 145 #[.pointer (some ⟨g,0,none⟩)] w fun e w'=>e= .returned (.int .i64 n)∧BdS 186 w0 w' ok g (n+1) es en∧Below w0.heap.size w0 w'∧KeepB w w' ok g:=by
 obtain⟨A,c,v1,hl,h0,h1,h2,hf⟩:=Bd_cells hI;have HI:=q_ (Bd_size hI (by decide) (n+1));have HB:=q_ (below_set (j:=0) (v:= .int .i64 (n+1)) hB (Bd_own hI));clear hI hB;obtain⟨hn0,hn1⟩:=hn;go_enter Try.func145,Try.ntmps145;go_wp2
 go_ret
 exact⟨by simp,HI.o,HB.o,KeepB.set 0 _⟩
end Go.Proofs.Ytlecpdpdcocibaa.P
namespace Go.Proofs.Ytlecpdpdcocibaa.P
open Go.RowKit Go.Shelf Go.Proofs.YtlecpdpdcocibaaW.PrintWords Go.Proofs.YtlecpdpdcocibaaW.PrintLast Go.Proofs.YtlecpdpdcocibaaW.PrintMore Go.Proofs.YtlecpdpdcocibaaEv
set_option linter.unusedVariables false
set_option linter.unusedSimpArgs false
theorem edgeS_hand{w0:World}(ok:Nat→Prop)(g:Nat)(n a b:Int)(es:List S116)(en:List S138)(A:Option Addr)(c:Nat)(s:List S163)(w:World)(hI:BdS 186 w0 w ok g n es en)(hB:Below w0.heap.size w0 w)(hF:∀k,w.heap.size≤k→ok k)(hs:Kd.C k163 w A s.length s)(hc:s.length≤c)(hsl:s.length≤1048576)(hl:es.length≤1000000):
   Calls Try.prog 135 #[.pointer (some ⟨g,0,none⟩), .int .i64 a, .int .i64 b, .slice A s.length c] w fun e w'=>e= .returned (.tuple #[])∧BdS 186 w0 w' ok g n (es++ [⟨a,b,s⟩]) en∧Below w0.heap.size w0 w'∧KeepB w w' ok g:=by
 obtain⟨v0,v1,hG,hg,hR0,hR1⟩:=hI;obtain⟨A0,c0,rfl⟩:=Kd.S_slice hR0;have GE:=q_ hg;have BK:=q_ (blk_drew hG);have O0:=q_ (Kd.S_drew (Kd.S_mono (Kd.S_bound hR0) (ok':=fun k=>ok k∧¬w.heap.size≤k) fun k hk=>⟨hk.1,Nat.not_le.2 hk.2.2.1⟩));have O1:=q_ (Kd.R_drew hR1);have HB:=q_ (below_drew1 hB);have HF:=q_ hF;have HS:=q_ (Kd.C_drew hs);have HL0:=q_ (Kd.S_lt hR0);have HK:J0 (Below w.heap.size w w.drew):=⟨below_drew1 (Below.refl _ _)⟩;have hu1:=Try.underlying114;have hu2:=Try.underlying57;clear hG hg hR0 hR1 hB hF hs;go_enter Try.func135,Try.ntmps135
 go_wp2_with fail
 refine start_ (n:=18) (S:=fun w'=>w'.cell? ⟨g,1,none⟩=some (.slice A0 es.length c0)) (ds:=[17]) (bb 18 0) (by kernel_rfl) rfl rfl ((blk_cell BK.o 1).trans rfl) (fun hS=>?_);generalize w.drew=W1 at BK O0 O1 HB HS HK hS ⊢;refine pk_ 0 8 1 ?_;refine pk_ 1 9 3 ?_;refine pk_ 2 10 7 ?_;refine pk_ 3 11 15 ?_;refine pk_ 4 12 31 ?_;refine pk_ 6 14 95 ?_;refine pk_ 7 15 223 ?_;refine pk_ 9 17 735 ?_;refine tk_ 5 13 767 hS ?_;refine one_ (i:=8) (N:=some 16) (bb 18 1023) rfl rfl (by kernel_rfl) (by decide) (fun K hK=>?_);refine Kd.R_lit_step k163 W1.heap.size 163 (by rfl) (N:=16) rfl (xs:=([]:List S163)) (inner:=[]) (ok:=fun _=>True) (okp:=fun _=>True) ?hr ?hp (fun _ hk=>hk) trivial (Below.refl _ _) (Nat.le_refl _) (by simp) ?_;(case hr=>first| (go_simp;done)| (go_simp;rfl));(case hp=>exact(Reps.none _ _));intro v W2 ho hb _ _;have HE:=q_ ho;have HX:=q_ hb;clear ho hb;refine hK.out _ _ ((blk_cell (blk_below BK.o HX.o) 1).trans rfl) (fun hS=>?_);clear hK K;refine no_ (some 16) ?_;refine one_ (i:=10) (N:=some 18) (bb 18 2047) rfl rfl (by kernel_rfl) (by decide) (fun K hK=>?_);refine Kd.R_append_rows_step k163 (w0:=W1) W1.heap.size (by rfl) (.tmp 16) (.tmp 17) 114 163 (.agg #[(.int .i64 0),(.int .i64 0)]) 16 rfl Try.underlying114 info163 rfl (by decide) (by omega) v [] s _ _ _ (fun _=>True) (fun _=>False) rfl rfl ?aO ?aR (fun _ _ h=>h) (fun _ h=>h.elim) ?aF ?aB ?aS ?aL ?_;(case aO=>exact HE.o);(case aR=>exact Kd.C_below HS.o HX.o);(case aF=>exact fun _ _=>trivial);(case aB=>exact HX.o);(case aS=>exact HX.o.size);(case aL=>simp;omega);intro v3 W3 hV hb _ _;rw[List.nil_append]at hV;obtain⟨AV,cV,rfl⟩:=Kd.R_slice hV;have HV:J0 (Kd.R k163 163 W3 w0.heap.size (fun k=>w.heap.size≤k) (.slice AV s.length cV) s):=⟨Kd.R_lower (Kd.R_mono (Kd.R_bound hV) fun k hk=>Nat.le_trans HK.o.size hk.2.1) HB.o.size⟩;replace O0:=q_ (Kd.S_below O0.o hb);replace O1:=q_ (Kd.R_below O1.o hb);replace BK:=q_ (blk_below BK.o hb);replace HB:=q_ (below_step HB.o hb);replace HK:=q_ (below_step HK.o hb);clear hb hV HS HX HE;refine hK.out _ _ ((blk_cell BK.o 1).trans rfl) (fun hS=>?_);clear hK K;refine no_ (some 18) ?_;refine pk_ 11 19 4095 ?_;refine one_ (i:=12) (N:=some 20) (bb 18 8191) rfl rfl (by kernel_rfl) (by decide) (fun K hK=>?_);refine value_ (w1:=?_) (v:=?_) (by rfl) rfl ?_ ?_;rotate_left 2
 ·go_simp
  constructor
  ·rfl
  ·rfl
 refine hK.out _ _ ((World.cell?_alloc_lt _ _ _ (World.block_lt_of_cell? _ _ hS)).trans hS) (fun hS=>?_);clear hK K;refine no_ (some 20) ?_;refine one_ (i:=13) (N:=some 21) (bb 18 16383) rfl rfl (by kernel_rfl) (by decide) (fun K hK=>?_);refine Kd.S_append_step k116 (w0:=w0) w0.heap.size (by rfl) (.tmp 13) (.tmp 20) 57 116 (.agg #[(.int .i64 0),(.int .i64 0),(.slice none 0 0)]) 40 rfl Try.underlying57 infoEdge_ rfl (by decide) (by omega) (.slice A0 es.length c0) es (⟨a,b,s⟩:S116) [.int .i64 a, .int .i64 b, .slice AV s.length cV] ok (fun k=>w.heap.size≤k) rfl rfl ?aP ?aQ ?aF O0.o HB.o (below_size HB.o) ?aL ?_;(case aP=>exact k116_mkM _ _ _ (⟨a,b,s⟩:S116) HV.o);(case aQ=>exact fun k hk=>⟨HF.o k hk,fun e=>Nat.not_lt.2 hk (HL0.o k e.symm)⟩);(case aF=>exact fun k hk=>HF.o k (Nat.le_trans HK.o.size hk));(case aL=>omega);intro v2 w2 ho hb hgr hat;have hne:=Kd.S_ne O0.o BK.o (by decide);have HOb:=q_ (Kd.R_over' O1.o (Kd.S_typed O0.o) (by decide) hgr);have BK2:=q_ (blk_grown BK.o hgr hne);have KP2:J0 (KeepB w w2 ok g):=⟨Nat.le_trans HK.o.size hgr.size,fun k hk hkg hko=>(hgr.block k (Nat.lt_of_lt_of_le hk HK.o.size) (fun e=>hko ((Kd.S_R O0.o).1 k e.symm).1)).trans (HK.o.block k hk)⟩;obtain⟨A2,c2,rfl⟩:=Kd.S_slice ho;have hln:(es++ [(⟨a,b,s⟩:S116)]).length=es.length+1:=by simp
 rw[hln]at ho ⊢;have hS2:=(blk_cell BK2.o 1);have hf2:=blk_frozen BK2.o 1;refine hK.out _ _ ?hS3 (fun hS=>?_);(case hS3=>exact(blk_cell BK2.o 1).trans rfl);clear hK K;refine no_ (some 21) ?_;refine pk_ 14 22 32767 ?_;refine pk_ 15 23 65535 ?_;refine pk_ 16 24 131071 ?_;refine last_ (i:=17) (N:=none) (bb 18 262143) rfl rfl (by kernel_rfl) (by decide) (fun K hK=>?_);refine skip_ (w1:=?_) (by rfl) rfl ?_ ?_;rotate_left
 ·go_simp
  rfl
 refine hK.out _ _ ?_;clear hK K;refine done_ (by kernel_rfl) ?_
 go_wp2_with fail
 go_end0
 exact⟨rfl,⟨_,_,(blk_set BK2.o 1 _).trans rfl,GE.o,Kd.S_set ho BK2.o (by decide) 1 _,Kd.R_set HOb.o BK2.o (by decide) 1 _⟩,below_set hb GE.o,KeepB.trans KP2.o (KeepB.set 1 _)⟩
structure FrB (T:Nat) (w0 w5 W:World) (ok:Nat→Prop) (g:Nat) (n:Int) (es:List S116) (en:List S138):Prop where
 st:BdS T w0 W ok g n es en
 lo:Below w0.heap.size w0 W
 kp:KeepB w5 W ok g
def okF(ok:Nat→Prop)(w w5:World)(k:Nat):Prop:=ok k∧(k<w.heap.size∨w5.heap.size≤k)
section
variable {T:Nat} {w0 w w5 W W2:World} {ok:Nat→Prop} {g:Nat} {n n2:Int} {es es2:List S116} {en en2:List S138}
theorem FrB.start(hI:BdS T w0 w ok g n es en)(hB:Below w0.heap.size w0 w)(hb:Below w.heap.size w w5):FrB T w0 w5 w5 (okF ok w w5) g n es en:=⟨Bd_below hI hb,hB.trans (hb.mono hB.size),KeepB.refl⟩
theorem FrB.here(hI:BdS T w0 w ok g n es en)(hB:Below w0.heap.size w0 w):FrB T w0 w w ok g n es en:=⟨hI,hB,KeepB.refl⟩
theorem FrB.drew(h:FrB T w0 w5 W ok g n es en):FrB T w0 w5 W.drew ok g n es en:=⟨Bd_drew h.st,below_drew1 h.lo,h.kp⟩
theorem FrB.call(h:FrB T w0 w5 W ok g n es en)(hI:BdS T w0 W2 ok g n2 es2 en2)(hB:Below w0.heap.size w0 W2)(hK:KeepB W W2 ok g):FrB T w0 w5 W2 ok g n2 es2 en2:=⟨hI,hB,h.kp.trans hK⟩
theorem FrB.fr(h:FrB T w0 w5 W ok g n es en)(hf:∀k,w5.heap.size≤k→ok k):∀k,W.heap.size≤k→ok k:=fun k hk=>hf k (Nat.le_trans h.kp.1 hk)
theorem okF.free(hf:∀k,w.heap.size≤k→ok k)(hb:Below w.heap.size w w5):∀k,w5.heap.size≤k→okF ok w w5 k:=fun k hk=>⟨hf k (Nat.le_trans hb.size hk), .inr hk⟩
theorem okF.own{b:Nat}(h1:w.heap.size≤b)(h2:b<w5.heap.size):¬okF ok w w5 b:=fun h=>by have:=h.2;omega
theorem FrB.blk(h:FrB T w0 w5 W (okF ok w w5) g n es en){b:Nat}{o:Obj}(hb:w5.heap[b]? =some o)(h1:w.heap.size≤b)(hg:g<w.heap.size):W.heap[b]? =some o:=h.kp.blk hb (by omega) (okF.own h1 (blk_lt hb))
theorem FrB.fin(h:FrB T w0 w5 W (okF ok w w5) g n es en)(hb:Below w.heap.size w w5):BdS T w0 W ok g n es en∧Below w0.heap.size w0 W∧KeepB w W ok g:=⟨Bd_mono h.st (fun _ hk=>hk.1),h.lo,(KeepB.below hb).trans (h.kp.weaken fun _ hk=>hk.1)⟩
theorem FrB.fin0(h:FrB T w0 w W ok g n es en):BdS T w0 W ok g n es en∧Below w0.heap.size w0 W∧KeepB w W ok g:=⟨h.st,h.lo,h.kp⟩
end
end Go.Proofs.Ytlecpdpdcocibaa.P
namespace Go.Proofs.Ytlecpdpdcocibaa.P
open Go.RowKit Go.Proofs.YtlecpdpdcocibaaW.PrintWords Go.Proofs.YtlecpdpdcocibaaW.PrintLast Go.Proofs.YtlecpdpdcocibaaEv
set_option linter.unusedVariables false
set_option linter.unusedSimpArgs false
theorem spec_l1In_eq(a b c:Int):spec_l1In.f a b c=some (decide (b≤a∧a≤c)):=by
 unfold spec_l1In.f;by_cases h:a≥b<;>simp[h]
theorem impl_within_eq(a b c:Int):impl_within.f a b c=some (decide (b≤a∧a≤c)):=by
 unfold impl_within.f;by_cases h:a≥b<;>simp[h]
end Go.Proofs.Ytlecpdpdcocibaa.P
namespace Go.Proofs.Ytlecpdpdcocibaa.P
open Go.RowKit Go.Proofs.YtlecpdpdcocibaaW.PrintWords Go.Proofs.YtlecpdpdcocibaaW.PrintLast Go.Proofs.YtlecpdpdcocibaaW.PrintMore Go.Proofs.YtlecpdpdcocibaaEv
set_option linter.unusedVariables false
set_option linter.unusedSimpArgs false
def kidsN(op:Int):Int:=if op=1∨op=2 then 0 else if op=3∨op=4 then 2 else if op=5∨op=6∨op=7∨op=8 then 1 else -1
def timesB(mi ma:Int):Bool:=decide (0≤mi∧mi≤30)&&(decide (ma= -1)||(decide (mi≤ma∧ma≤30)&&decide (ma≠0)))
def spansR:Int→List S163→Bool
 | _,[]=>true
 |last,s :: rest=>decide (0≤s.f0)&&decide (s.f0≤s.f1)&&decide (s.f1≤255)&&decide (last+2≤s.f0)&&spansR s.f1 rest
def classB(l:List S163):Bool:=spansR (-2) l
theorem spansR_few:∀(l:List S163) (last:Int), -2≤last→spansR last l=true→2*(l.length:Int)≤255-last∨l= []:=by
 intro l
 induction l with
 |nil=>intro last _ _;exact .inr rfl
 | cons a l ih=>
   intro last h0 h;simp only[spansR,Bool.and_eq_true,decide_eq_true_eq]at h
   left
   rcases ih a.f1 (by omega) h.2 with h1|h1
   ·simp only[List.length_cons]
    omega
   ·subst h1
    simp;omega
theorem classB_few{l:List S163}(h:classB l=true):l.length≤128:=by
 rcases spansR_few l (-2) (by omega) h with h1|h1
 ·omega
 ·simp[h1]
theorem spec_ClassOk_ev(l:List S163):Ev (fun k=>spec_ClassOk.f k l) (classB l):=by
  unfold spec_ClassOk.f;simp only[ev_ite];by_cases h6:l.length≤128
  · rw [iN (by omega)]
    unfold classB;have key:=down l.length (fun i=>∀last:Int,(i=0→last= -2)→(0<i→last=(rd_T163 l ((i-1:Nat):Int)).f1∧0≤last∧last≤255)→Ev (fun k=>spec_ClassOk.l0 k l (i:Nat)) (spansR last (l.drop i))) ?_ ?_ 0 (by omega) (-2) (fun _=>rfl) (by omega)
    ·exact key
    ·intro last _ _
     rw[ev_succ];simp only[spec_ClassOk.l0,ev_ite,ev_some];rw[iN (by omega),List.drop_length];rfl
    · intro i hi ih last hl0 hl1
      rw[ev_succ,drop_cons l z163 i hi];have hr:l.getD i z163=rd_T163 l i:=by simp[rd_T163]
      rw[hr];have ih2:=fun h=>ih (rd_T163 l i).f1 (by omega) (fun _=>⟨by rw[Nat.add_sub_cancel],h⟩)
      simp only[spec_ClassOk.l0,spec_l1In_eq,Option.bind_some,ev_ite,ev_some,spansR];rw[iP (by omega),iP (by omega),wrap_succ hi (by omega)];have hprev:0<i→(0≤wrap64 ((i:Int)-1)∧wrap64 ((i:Int)-1)<l.length∧(rd_T163 l (wrap64 ((i:Int)-1))).f1=last∧wrap64 (last+2)=last+2):=by
        intro hp;have:=hl1 hp;rw[wrap_id (x:=(i:Int)-1) (by omega) (by omega),wrap_id (x:=last+2) (by omega) (by omega)];exact⟨by omega,by omega,by rw[this.1,show((i:Int)-1)=((i-1:Nat):Int) by omega],rfl⟩
      generalize(l.drop (i+1))=T at *;generalize rd_T163 l (i:Int)=a at *;generalize hG:(fun k=>spec_ClassOk.l0 k l ((i+1:Nat):Int))=G at *;by_cases c1:0≤a.f0∧a.f0≤255
      · rw [iP (by simpa using c1)]
        by_cases c2:a.f0≤a.f1∧a.f1≤255
        · rw [iP (by simpa using c2)]
          have hend:(last+2≤a.f0)→Ev G (decide (0≤a.f0)&&decide (a.f0≤a.f1)&&decide (a.f1≤255)&&decide (last+2≤a.f0)&&spansR a.f1 T):=by
            intro h5;refine ev_congr (ih2 (by omega)) ?_;simp[c1,c2,h5]
          by_cases h00:i=0
          · rw[iN (by omega)]
            exact hend (by have:=hl0 h00;omega)
          · obtain⟨h1',h2',h3',h4'⟩:=hprev (by omega)
            rw[iP (by omega),iP h1',iP h2',h3',h4'];by_cases c5:a.f0<last+2
            ·rw[iP c5];simp[show ¬last+2≤a.f0 by omega]
            · rw[iN c5]
              exact hend (by omega)
        ·rw[iN (by simpa using c2)]
         grind
      · rw[iN (by simpa using c1)]
        grind
  ·rw[iP (by omega)]
   refine ev_some.2 ?_;cases h:classB l
   ·rfl
   ·exact absurd (classB_few h) h6
def nodeB(op:Int)(set:List S163)(kids:List Int)(mi ma place:Int):Bool:=
 decide ((kids.length:Int)=kidsN op)&& !(kids.any fun x=> !decide (0≤x∧x≤place-1))&&(if op=2 then classB set&& !decide (set.length=0)else decide (set.length=0))&&(if op=8 then timesB mi ma else decide (mi=0)&&decide (ma=0))
theorem rd_set(l:List Int)(x v p:Int)(h0:0≤x)(hx:x<l.length)(hp:0≤p):rd (l.set x.toNat v) p=if p=x then v else rd l p:=by
 unfold rd;simp only[List.getD_eq_getElem?_getD,List.getElem?_set];by_cases h:p=x
 ·subst h
  rw[iP rfl,iP rfl,iP (by omega)];rfl
 ·rw[iN (by omega),iN h]
def addKids(K kids:List Int):List Int:=kids.foldl (fun K x=>K.set x.toNat (rd K x+1)) K
def setKids(D kids:List Int)(v:Int):List Int:=kids.foldl (fun D x=>D.set x.toNat v) D
theorem addKids_length(kids:List Int):∀K:List Int,(addKids K kids).length=K.length:=by
 induction kids with
 |nil=>intro K;rfl
 |cons x kids ih=>intro K;simp only[addKids,List.foldl_cons]at ih ⊢;rw[ih];simp
theorem setKids_length(kids:List Int)(v:Int):∀D:List Int,(setKids D kids v).length=D.length:=by
 induction kids with
 |nil=>intro K;rfl
 |cons x kids ih=>intro K;simp only[setKids,List.foldl_cons]at ih ⊢;rw[ih];simp
theorem addKids_rd(kids:List Int):∀K:List Int,(∀x∈kids,0≤x∧x<K.length)→∀p:Int,0≤p→rd (addKids K kids) p=rd K p+(kids.count p:Nat):=by
 induction kids with
 |nil=>intro K _ p _;simp[addKids]
 | cons x kids ih=>
   intro K hk p hp;have hx:=hk x (by simp);have:=ih (K.set x.toNat (rd K x+1)) (fun y hy=>by simpa using hk y (by simp[hy])) p hp;simp only[addKids,List.foldl_cons]at this ⊢;rw[this,rd_set _ _ _ _ hx.1 hx.2 hp,List.count_cons];by_cases h:p=x
   ·subst h;simp;omega
   ·rw[iN h]
    have:(x==p)=false:=beq_eq_false_iff_ne.2 (fun e=>h e.symm);simp[this]
theorem setKids_le(kids:List Int)(v:Int)(h0:0≤v)(h1:v≤151):∀D:List Int,(∀p:Int,0≤p→0≤rd D p∧rd D p≤151)→(∀x∈kids,0≤x∧x<D.length)→∀p:Int,0≤p→0≤rd (setKids D kids v) p∧rd (setKids D kids v) p≤151:=by
 induction kids with
 |nil=>intro D hD _;exact hD
 | cons x kids ih=>
   intro D hD hk;simp only[setKids,List.foldl_cons]at ih ⊢;refine ih _ (fun p hp=>?_) (fun y hy=>by simpa using hk y (by simp[hy]));rw[rd_set _ _ _ _ (hk x (by simp)).1 (hk x (by simp)).2 hp];split
   ·exact⟨h0,h1⟩
   ·exact hD p hp
def cntFrom(l:List S196)(j:Nat)(p:Int):Nat:=((l.drop j).map fun s=>s.f2.count p).sum
theorem cntFrom_step(l:List S196)(j:Nat)(p:Int)(h:j<l.length):cntFrom l j p=(rd_T196 l j).f2.count p+cntFrom l (j+1) p:=by
 unfold cntFrom;rw[drop_cons l z196 j h];have hr:l.getD j z196=rd_T196 l j:=by simp[rd_T196]
 rw[hr];simp
def nodeAt(l:List S196)(j:Nat):Bool:=nodeB (rd_T196 l j).f0 (rd_T196 l j).f1 (rd_T196 l j).f2 (rd_T196 l j).f3 (rd_T196 l j).f4 j
def nodesB(l:List S196):Nat→Bool
 |0=>true
 |j+1=>nodeAt l j&&nodesB l j
theorem kidsN_le(op:Int):kidsN op≤2:=by
 unfold kidsN;split
 ·omega
 ·split
  ·omega
  ·split<;>omega
theorem node_kids{l:List S196}{j:Nat}(h:nodeAt l j=true):(rd_T196 l j).f2.length≤2∧((rd_T196 l j).f2.length:Int)=kidsN (rd_T196 l j).f0∧∀x∈(rd_T196 l j).f2,0≤x∧x<j:=by
 unfold nodeAt nodeB at h;simp only[Bool.and_eq_true,decide_eq_true_eq,Bool.not_eq_true',List.any_eq_false,Bool.not_eq_true]at h;obtain⟨⟨⟨h1,h2⟩,_⟩,_⟩:=h;refine⟨by have:=kidsN_le (rd_T196 l j).f0;omega,h1,fun x hx=>?_⟩;have:=h2 x hx;simp at this;omega
theorem nodesB_at{l:List S196}{n:Nat}(h:nodesB l n=true):∀j,j<n→nodeAt l j=true:=by
 induction n with
 |zero=>intro j hj;omega
 | succ n ih=>
   simp only[nodesB,Bool.and_eq_true]at h;intro j hj;by_cases e:j=n
   ·subst e;exact h.1
   ·exact ih h.2 j (by omega)
theorem nodesB_of{l:List S196}{n:Nat}(h:∀j,j<n→nodeAt l j=true):nodesB l n=true:=by
 induction n with
 |zero=>rfl
 | succ n ih=>
   simp only[nodesB,Bool.and_eq_true];exact⟨h n (by omega),ih fun j hj=>h j (by omega)⟩
def treeR(l:List S196):Nat→List Int→Bool
 |0,_=>true
 |j+1,D=>(decide (j+1=l.length)||decide (cntFrom l (j+1) j=1))&&decide (rd D j≤150)&&treeR l j (setKids D (rd_T196 l j).f2 (rd D j+1))
def rxB(l:List S196):Bool:=decide (1≤l.length)&&decide (l.length≤300)&&nodesB l l.length&&treeR l l.length (List.replicate l.length 0)
theorem rxB_parts{l:List S196}(h:rxB l=true):1≤l.length∧l.length≤300∧∀j,j<l.length→nodeAt l j=true:=by
 simp only[rxB,Bool.and_eq_true,decide_eq_true_eq]at h;exact⟨h.1.1.1,h.1.1.2,nodesB_at h.1.2⟩
theorem rd_replicate(n:Nat)(p:Int):rd (List.replicate n 0) p=0:=by
 unfold rd;rw[List.getD_eq_getElem?_getD,List.getElem?_replicate];split<;>rfl
theorem count_le_two{kids:List Int}(h:kids.length≤2)(p:Int):kids.count p≤2:=Nat.le_trans List.count_le_length h
theorem spec_l3Kids_ev(op:Int)(h:1≤op∧op≤8):Ev (fun k=>spec_l3Kids.f k op) (kidsN op):=by
 have h0:∀b,Ev (fun k=>spec_l3Kids.j0 k op b) (if b then 2 else if op=5∨op=6∨op=7∨op=8 then 1 else 0):=by
  intro b;rw[ev_succ];simp only[spec_l3Kids.j0,ev_ite,ev_some];cases b<;>grind
 unfold spec_l3Kids.f kidsN;simp only[ev_ite];by_cases e1:op=3
 ·rw[iP e1]
  exact ev_congr (h0 _) (by grind)
 ·rw[iN e1]
  exact ev_congr (h0 _) (by grind)
theorem spec_l3Node_ev(op:Int)(set:List S163)(kids:List Int)(mi ma place:Int)(hp0:0≤place)(hp1:place≤1000000)(hk:kids.length≤9223372036854775807):Ev (fun k=>spec_l3Node.f k op set kids mi ma place) (nodeB op set kids mi ma place):=by
  have hbad:Ev (fun k=>spec_l3Node.j0 k place true op set kids mi ma) false:=by
   rw[ev_succ];simp only[spec_l3Node.j0,if_true];exact ev_some.2 rfl
  have hj2 :∀b:Bool,Ev (fun k=>spec_l3Node.j2 k b op set kids mi ma) (!b&&(if op=8 then timesB mi ma else decide (mi=0)&&decide (ma=0))):=by
    intro b;rw[ev_succ];simp only[spec_l3Node.j2,spec_l1In_eq,Option.bind_some,ev_ite,ev_some];cases b
    · rw [iN (by simp),Bool.not_false,Bool.true_and]
      by_cases h8:op=8
      · rw [iP h8,iP h8]
        unfold timesB mx;by_cases c1:0≤mi∧mi≤30
        · rw[iP (by simpa using c1)]
          by_cases c2:ma= -1
          ·rw[iP c2];simp[c1,c2]
          · rw[iN c2]
            by_cases c3:1<mi
            ·rw[iP c3,Bool.eq_iff_iff];simp[c1,c2];omega
            ·rw[iN c3,Bool.eq_iff_iff];simp[c1,c2];omega
        · rw[iN (by simpa using c1)]
          simp[c1]
      · rw[iN h8,iN h8]
        by_cases c1:mi=0
        ·rw[iP c1];simp[c1];rfl
        ·rw[iN c1];simp[c1]
    ·rw[iP rfl]
     rfl
  unfold spec_l3Node.f nodeB;simp only[spec_l1In_eq,Option.bind_some,ev_ite];by_cases h18:1≤op∧op≤8
  · rw [iP (by simpa using h18),ev_bind (spec_l3Kids_ev op h18)]
    by_cases hkk:(kids.length:Int)=kidsN op
    · rw [bne_eq_false_iff_eq.2 hkk,decide_eq_true hkk,Bool.true_and,ev_succ]
      simp only[spec_l3Node.j0,Bool.false_eq_true,if_false];have key:=ev_loop kids.length (fun k i=>spec_l3Node.l0 k place (i:Nat) op set kids mi ma) (fun i=> !((kids.drop i).any fun x=> !decide (0≤x∧x≤place-1))&&(if op=2 then classB set&& !decide (set.length=0)else decide (set.length=0))&&(if op=8 then timesB mi ma else decide (mi=0)&&decide (ma=0))) ?_ ?_ 0 (by omega)
      ·exact key
      · rw [ev_succ]
        simp only[spec_l3Node.l0,ev_ite];rw[iN (by omega),List.drop_length];simp only[List.any_nil,Bool.not_false,Bool.true_and];by_cases h2:op=2
        · rw [iP h2,ev_bind (spec_ClassOk_ev set),iP h2]
          simp only[ev_ite];cases hc:classB set
          · rw[iN (by simp)]
            simpa using hj2 true
          · rw[iP rfl]
            by_cases hs:set.length=0
            · rw[iP (by omega),decide_eq_true hs]
              simpa using hj2 true
            · rw[iN (by omega),decide_eq_false hs]
              simpa using hj2 false
        · rw[iN h2,iN h2]
          refine ev_congr (hj2 _) ?_;by_cases hs:set.length=0
          ·rw[decide_eq_false (show ¬(set.length:Int)>0 by omega),decide_eq_true hs];rfl
          ·rw[decide_eq_true (show(set.length:Int)>0 by omega),decide_eq_false hs];rfl
      · intro i hi ih
        rw[ev_succ,drop_cons kids 0 i hi];have hr:kids.getD i 0=rd kids i:=by simp[rd]
        rw[hr];simp only[spec_l3Node.l0,spec_l1In_eq,Option.bind_some,ev_ite,List.any_cons];rw[iP (by omega),iP (by omega),wrap_succ hi (by omega),wrap_id (x:=place-1) (by omega) (by omega)];by_cases c:0≤rd kids i∧rd kids i≤place-1
        · rw[iP (by simpa using c)]
          refine ev_congr ih ?_;simp[c]
        · rw[iN (by simpa using c)]
          refine ev_some.2 ?_;rw[decide_eq_false c];simp
    ·rw[bne_iff_ne.2 hkk,decide_eq_false hkk]
     simpa using hbad
  ·rw[iN (by simpa using h18)]
   refine ev_congr hbad ?_;have:kidsN op= -1:=by
    unfold kidsN;rw[iN (by omega),iN (by omega),iN (by omega)]
   rw[this,decide_eq_false (by omega)];simp
def cntTo(l:List S196)(j:Nat)(p:Int):Nat:=((l.take j).map fun s=>s.f2.count p).sum
theorem cntTo_step(l:List S196)(j:Nat)(p:Int)(h:j<l.length):cntTo l (j+1) p=cntTo l j p+(rd_T196 l j).f2.count p:=by
 have hr:rd_T196 l (j:Int)=l[j]:=by unfold rd_T196;rw[List.getD_eq_getElem?_getD,Int.toNat_natCast,List.getElem?_eq_getElem h];rfl
 unfold cntTo;rw[hr,List.take_succ_eq_append_getElem h,List.map_append,List.sum_append];simp only[List.map_cons,List.map_nil,List.sum_cons,List.sum_nil,Nat.add_zero]
theorem cntTo_all(l:List S196)(p:Int):cntTo l l.length p=cntFrom l 0 p:=by simp[cntTo,cntFrom]
theorem cntFrom_own(l:List S196)(hok:∀i,i<l.length→nodeAt l i=true)(j:Nat)(hj:j<l.length):cntFrom l 0 j=cntFrom l (j+1) j:=by
 have:∀m,m≤j+1→cntFrom l m j=cntFrom l (j+1) j:=by
  refine down (j+1) _ rfl ?_;intro i hi ih;rw[cntFrom_step l i _ (by omega),ih];have:(rd_T196 l i).f2.count (j:Int)=0:=List.count_eq_zero.2 (fun hmem=>by
   have:=(node_kids (hok i (by omega))).2.2 _ hmem;omega)
  omega
 exact this 0 (by omega)
theorem spec_RxOk_l3(l:List S196)(n:Int)(U:List Int)(j:Nat)(kids:List Int)(hkk:kids=(rd_T196 l j).f2)(r:Bool)(hk:∀x∈kids,0≤x∧x<j)(hn:l.length≤300)(hj:j<l.length)(d:Int)(hd0:0≤d)(hd:d≤150)(hl2:kids.length≤2):
   ∀ m,m≤kids.length→∀D:List Int,D.length=l.length→rd D j=d→
     Ev (fun k=>spec_RxOk.l2 k n U (setKids D (kids.drop m) (d+1)) ((j:Int)-1) l) r→Ev (fun k=>spec_RxOk.l3 k n U D j (m:Nat) l) r:=by
 subst hkk;refine down _ _ ?_ ?_
 ·intro D _ _ h
  rw[ev_succ];simp only[spec_RxOk.l3,ev_ite];rw[iP (by omega),iP (by omega),iN (by omega),wrap_id (x:=(j:Int)-1) (by omega) (by omega)];rw[List.drop_length]at h;exact h
 ·intro m hm ih D hD hDj h
  have hx:0≤rd (rd_T196 l j).f2 m∧rd (rd_T196 l j).f2 m<j:=by
   have e:rd (rd_T196 l j).f2 m=(rd_T196 l j).f2[m]:=by unfold rd;rw[List.getD_eq_getElem?_getD,Int.toNat_natCast,List.getElem?_eq_getElem hm];rfl
   rw[e];exact hk _ (List.getElem_mem _)
  rw[drop_cons _ 0 m hm]at h;have hr:(rd_T196 l j).f2.getD m 0=rd (rd_T196 l j).f2 m:=by simp[rd]
  rw[hr]at h;simp only[setKids,List.foldl_cons]at h;rw[ev_succ];simp only[spec_RxOk.l3,ev_ite];rw[iP (by omega),iP (by omega),iP (by omega),iP (by omega),iP (by omega),iP hx.1,iP (by omega),wrap_succ hm (by omega),hDj,wrap_id (x:=d+1) (by omega) (by omega)];refine ih _ (by simpa using hD) ?_ h;rw[rd_set _ _ _ _ hx.1 (by omega) (by omega),iN (by omega)];exact hDj
theorem spec_RxOk_l2(l:List S196)(h1:1≤l.length)(hn:l.length≤300)(U:List Int)(hU:U.length=l.length)(hok:∀i,i<l.length→nodeAt l i=true)(hUc:∀p:Int,0≤p→rd U p=cntFrom l 0 p):
    ∀j,j≤l.length→∀D:List Int,D.length=l.length→(∀p:Int,0≤p→0≤rd D p∧rd D p≤151)→Ev (fun k=>spec_RxOk.l2 k l.length U D ((j:Int)-1) l) (treeR l j D):=by
  intro j
  induction j with
  | zero=>
    intro _ D hD _;rw[ev_succ];simp only[spec_RxOk.l2,ev_ite,ev_some,treeR];rw[iN (by omega)];trivial
  | succ j ih=>
    intro hj D hD hDb;rw[ev_succ];have e:((j+1:Nat):Int)-1=(j:Int):=by omega
    simp only[spec_RxOk.l2,ev_ite,e,treeR];rw[iP (by omega),wrap_id (x:=(l.length:Int)-1) (by omega) (by omega)];have hbad:Ev (fun k=>spec_RxOk.j4 k l.length U D j true l) false:=by
     rw[ev_succ];simp only[spec_RxOk.j4,if_true];exact ev_some.2 rfl
    obtain⟨hk2,_,hkl⟩:=node_kids (hok j (by omega));have hD':=hDb (j:Int) (by omega);have hgo:Ev (fun k=>spec_RxOk.j4 k l.length U D j (decide (rd D j>150)) l) (decide (rd D j≤150)&&treeR l j (setKids D (rd_T196 l j).f2 (rd D j+1))):=by
      by_cases h15:rd D j≤150
      · rw[decide_eq_false (show ¬rd D j>150 by omega),decide_eq_true h15,Bool.true_and,ev_succ]
        simp only[spec_RxOk.j4,Bool.false_eq_true,if_false];refine spec_RxOk_l3 l l.length U j _ rfl _ hkl hn (by omega) (rd D j) hD'.1 h15 hk2 0 (by omega) D hD rfl ?_;rw[List.drop_zero];exact ih (by omega) _ (by rw[setKids_length];exact hD) (setKids_le _ _ (by omega) (by omega) D hDb (fun x hx=>by have:=hkl x hx;omega))
      · rw[decide_eq_true (show rd D j>150 by omega),decide_eq_false h15,Bool.false_and]
        exact hbad
    by_cases hlast:j+1=l.length
    ·rw[iN (by omega),iP (by omega),iP (by omega),decide_eq_true hlast,Bool.true_or,Bool.true_and]
     exact hgo
    · rw[iP (by omega),iP (by omega),iP (by omega),decide_eq_false hlast,Bool.false_or,hUc _ (by omega),cntFrom_own l hok j (by omega)]
      by_cases h1c:cntFrom l (j+1) j=1
      · rw[iP (by omega),iP (by omega),decide_eq_true h1c,Bool.true_and]
        exact hgo
      · rw[iN (by omega),decide_eq_false h1c,Bool.false_and,Bool.false_and]
        exact hbad
theorem spec_RxOk_l1(l:List S196)(n:Int)(j:Nat)(kids:List Int)(hkk:kids=(rd_T196 l j).f2)(r:Bool)(hk:∀x∈kids,0≤x∧x<j)(hn:l.length≤300)(hj:j<l.length)(hl2:kids.length≤2):
   ∀ m,m≤kids.length→∀K:List Int,K.length=l.length→(∀p:Int,0≤p→0≤rd K p∧rd K p+(kids.length-m:Nat)≤100000)→
     Ev (fun k=>spec_RxOk.l0 k n (addKids K (kids.drop m)) ((j+1:Nat):Int) l) r→Ev (fun k=>spec_RxOk.l1 k n K j (m:Nat) l) r:=by
 subst hkk;refine down _ _ ?_ ?_
 ·intro K _ _ h
  rw[ev_succ];simp only[spec_RxOk.l1,ev_ite];rw[iP (by omega),iP (by omega),iN (by omega),wrap_succ hj (by omega)];rw[List.drop_length]at h;exact h
 ·intro m hm ih K hK hb h
  have hx:0≤rd (rd_T196 l j).f2 m∧rd (rd_T196 l j).f2 m<j:=by
   have e:rd (rd_T196 l j).f2 m=(rd_T196 l j).f2[m]:=by unfold rd;rw[List.getD_eq_getElem?_getD,Int.toNat_natCast,List.getElem?_eq_getElem hm];rfl
   rw[e];exact hk _ (List.getElem_mem _)
  rw[drop_cons _ 0 m hm]at h;have hr:(rd_T196 l j).f2.getD m 0=rd (rd_T196 l j).f2 m:=by simp[rd]
  rw[hr]at h;simp only[addKids,List.foldl_cons]at h;rw[ev_succ];simp only[spec_RxOk.l1,ev_ite];have hbx:=hb _ hx.1;rw[iP (by omega),iP (by omega),iP (by omega),iP (by omega),iP hx.1,iP (by omega),wrap_succ hm (by omega),wrap_id (x:=rd K (rd (rd_T196 l j).f2 m)+1) (by omega) (by omega)];refine ih _ (by simpa using hK) ?_ h;intro p hp;have:=hb p hp;rw[rd_set _ _ _ _ hx.1 (by omega) hp];split
  ·subst p;omega
  ·omega
theorem spec_RxOk_ev(l:List S196)(hl:l.length≤1048576)(hkl:∀x∈l,x.f2.length≤9223372036854775807):Ev (fun k=>spec_RxOk.f k l) (rxB l):=by
  have hbad:∀n,Ev (fun k=>spec_RxOk.j0 k n true l) false:=by
   intro n;rw[ev_succ];simp only[spec_RxOk.j0,if_true];exact ev_some.2 rfl
  unfold spec_RxOk.f rxB;simp only[ev_ite];by_cases h1:1≤l.length
  · rw [iN (by omega)]
    by_cases hn:l.length≤300
    · rw [decide_eq_false (show ¬(l.length:Int)>300 by omega),decide_eq_true h1,decide_eq_true hn,Bool.true_and,Bool.true_and,ev_succ]
      simp only[spec_RxOk.j0,Bool.false_eq_true,if_false,ev_ite];rw[iP (by omega),iP (by omega),Int.toNat_natCast];have key:=down l.length (fun i=>(∀m,m<i→nodeAt l m=true)→∀U:List Int,U.length=l.length→(∀p:Int,0≤p→rd U p=cntTo l i p)→(∀p:Int,0≤p→cntTo l i p≤2*i)→Ev (fun k=>spec_RxOk.l0 k l.length U (i:Nat) l) (nodesB l l.length&&treeR l l.length (List.replicate l.length 0))) ?_ ?_ 0 (by omega) (fun m hm=>by omega) (List.replicate l.length 0) (by simp) (fun p _=>by rw[rd_replicate];rfl) (fun p _=>by simp[cntTo])
      ·exact key
      · intro hok U hU hUc _
        rw[ev_succ];simp only[spec_RxOk.l0,ev_ite];rw[iN (by omega),iP (by omega),iP (by omega),Int.toNat_natCast,wrap_id (x:=(l.length:Int)-1) (by omega) (by omega),nodesB_of hok,Bool.true_and];exact spec_RxOk_l2 l h1 hn U hU hok (fun p hp=>by rw[hUc p hp,cntTo_all]) l.length (Nat.le_refl _) _ (by simp) (fun p _=>by rw[rd_replicate];omega)
      · intro i hi ih hok U hU hUc hUb
        rw[ev_succ];simp only[spec_RxOk.l0,ev_ite];have hmem:(rd_T196 l i)∈l:=by
          unfold rd_T196;rw[List.getD_eq_getElem?_getD,Int.toNat_natCast,List.getElem?_eq_getElem hi];exact List.getElem_mem _
        rw[iP (by omega),iP (by omega),iP (by omega),ev_bind (spec_l3Node_ev _ _ _ _ _ _ (by omega) (by omega) (hkl _ hmem)),ev_ite];have hnode:nodeB (rd_T196 l i).f0 (rd_T196 l i).f1 (rd_T196 l i).f2 (rd_T196 l i).f3 (rd_T196 l i).f4 i=nodeAt l i:=rfl;rw[hnode];cases hnd:nodeAt l i
        · rw[iN (by simp)]
          refine ev_some.2 ?_;cases hall:nodesB l l.length
          ·rfl
          · rw[nodesB_at hall i hi]at hnd
            exact absurd hnd (by simp)
        · rw[iP rfl]
          obtain⟨hk2,_,hkl2⟩:=node_kids hnd;refine spec_RxOk_l1 l l.length i _ rfl _ hkl2 hn hi hk2 0 (by omega) U hU (fun p hp=>by have:=hUc p hp;have:=hUb p hp;omega) ?_;rw[List.drop_zero];refine ih (fun m hm=>?_) _ (by rw[addKids_length];exact hU) (fun p hp=>?_) (fun p hp=>?_)
          · by_cases e:m=i
            ·subst e;exact hnd
            ·exact hok m (by omega)
          · rw[addKids_rd _ _ (fun x hx=>by have:=hkl2 x hx;omega) p hp,hUc p hp,cntTo_step l i p hi]
            omega
          · rw[cntTo_step l i p hi]
            have:=hUb p hp;have:=count_le_two hk2 p;omega
    ·rw[decide_eq_true (show(l.length:Int)>300 by omega),decide_eq_false hn]
     simpa using hbad _
  ·rw[iP (by omega),decide_eq_false h1]
   simpa using hbad _
abbrev NB:=Int × List S116
abbrev NR:=Int × Int × NB
def fullN(s:NB):Bool:=fullB s.1 s.2
def edgeN(s:NB)(a b:Int)(c:List S163):NB:=(s.1,s.2++ [⟨a,b,c⟩])
def loopN(op a z:Int)(s:NB):NR:=(s.1,s.1+1,edgeN (if op=7 then(if op=6 then edgeN (s.1+2,s.2) s.1 a []else edgeN (edgeN (s.1+2,s.2) s.1 a []) s.1 (s.1+1) [])else edgeN (if op=6 then edgeN (s.1+2,s.2) s.1 a []else edgeN (edgeN (s.1+2,s.2) s.1 a []) s.1 (s.1+1) []) z a []) z (s.1+1) [])
def joinN(f t:Int)(r:NR):NR:=if f<0 then r else(f,r.2.1,edgeN r.2.2 t r.1 [])
def minI(P:NB→NR):Nat→NR→Bool × NR
 |0,r=>(false,r)
 |m+1,r=>if fullN r.2.2=true then(true,(0,0,r.2.2))else minI P m (joinN r.1 r.2.1 (P r.2.2))
def maxI(P:NB→NR):Nat→NR→NR
 |0,r=>r
 |m+1,r=>if fullN r.2.2=true then r else maxI P m (joinN r.1 r.2.1 (loopN 7 (P r.2.2).1 (P r.2.2).2.1 (P r.2.2).2.2))
def restI(P:NB→NR)(mx:Int)(r:NR):NR:=if mx<0 then joinN r.1 r.2.1 (loopN 5 (P r.2.2).1 (P r.2.2).2.1 (P r.2.2).2.2)else r
def timesI(P:NB→NR)(mn mx:Int)(s:NB):NR:=
 if(minI P mn.toNat (-1, -1,s)).1=true then(minI P mn.toNat (-1, -1,s)).2 else maxI P (mx-mn).toNat (restI P mx (minI P mn.toNat (-1, -1,s)).2)
def timesL(P:NB→NR)(mn op:Int):Nat→Int→NR→NR
 |0,_,r=>r
 |m+1,i,r=>if fullN r.2.2=true then r else timesL P mn op m (i+1) (joinN r.1 r.2.1 (if i≥mn then loopN op (P r.2.2).1 (P r.2.2).2.1 (P r.2.2).2.2 else P r.2.2))
def loopOp(mx:Int):Int:=if mx<0 then 5 else 7
def manyS(mn mx:Int):Int:=if mx<0 then mn+1 else mx
def timesS(P:NB→NR)(mn mx:Int)(s:NB):NR:=
 (max 0 (timesL P mn (loopOp mx) (manyS mn mx).toNat 0 (-1, -1,s)).1,max 0 (timesL P mn (loopOp mx) (manyS mn mx).toNat 0 (-1, -1,s)).2.1,(timesL P mn (loopOp mx) (manyS mn mx).toNat 0 (-1, -1,s)).2.2)
def catN(q u:NR):NR:=(q.1,u.2.1,edgeN u.2.2 q.2.1 u.1 [])
def altN(q u:NR):NR:=(u.2.2.1,u.2.2.1+1,edgeN (edgeN (edgeN (edgeN (u.2.2.1+2,u.2.2.2) u.2.2.1 q.1 []) u.2.2.1 u.1 []) q.2.1 (u.2.2.1+1) []) u.2.1 (u.2.2.1+1) [])
def setN(c:List S163)(s:NB):NR:=(s.1,s.1+1,edgeN (s.1+2,s.2) s.1 (s.1+1) c)
def partN(tm:(NB→NR)→Int→Int→NB→NR)(l:List S196):Nat→Int→NB→NR
  |0,_,s=>(0,0,s)
  | k+1,i,s=>
    if fullN s=true then(0,0,s)
    else if(rd_T196 l i).f0=1∨(rd_T196 l i).f0=2 then setN (rd_T196 l i).f1 s
    else if(rd_T196 l i).f0=3 then catN (partN tm l k (rd (rd_T196 l i).f2 0) s) (partN tm l k (rd (rd_T196 l i).f2 1) (partN tm l k (rd (rd_T196 l i).f2 0) s).2.2)
    else if(rd_T196 l i).f0=4 then altN (partN tm l k (rd (rd_T196 l i).f2 0) s) (partN tm l k (rd (rd_T196 l i).f2 1) (partN tm l k (rd (rd_T196 l i).f2 0) s).2.2)
    else if(rd_T196 l i).f0=8 then tm (partN tm l k (rd (rd_T196 l i).f2 0)) (rd_T196 l i).f3 (rd_T196 l i).f4 s
    else loopN (rd_T196 l i).f0 (partN tm l k (rd (rd_T196 l i).f2 0) s).1 (partN tm l k (rd (rd_T196 l i).f2 0) s).2.1 (partN tm l k (rd (rd_T196 l i).f2 0) s).2.2
def Ag(r q:NR):Prop:=r=q∨(fullN r.2.2=true∧fullN q.2.2=true)
theorem full_iff(s:NB):fullN s=true↔s.1>3000∨(s.2.length:Int)>12000:=by simp[fullN,fullB]
theorem full_edge{s:NB}(h:fullN s=true)(a b:Int)(c:List S163):fullN (edgeN s a b c)=true:=by
 rw[full_iff]at h ⊢;simp only[edgeN,List.length_append,List.length_singleton];omega
theorem full_two{s:NB}(h:fullN s=true):fullN (s.1+2,s.2)=true:=by
 rw[full_iff]at h ⊢;dsimp only;omega
theorem full_loop{s:NB}(h:fullN s=true)(op a z:Int):fullN (loopN op a z s).2.2=true:=by
 unfold loopN;refine full_edge ?_ _ _ _;split
 ·split
  ·exact full_edge (full_two h) _ _ _
  ·exact full_edge (full_edge (full_two h) _ _ _) _ _ _
 ·refine full_edge ?_ _ _ _
  split
  ·exact full_edge (full_two h) _ _ _
  ·exact full_edge (full_edge (full_two h) _ _ _) _ _ _
theorem full_join{r:NR}(h:fullN r.2.2=true)(f t:Int):fullN (joinN f t r).2.2=true:=by
 unfold joinN;split
 ·exact h
 ·exact full_edge h _ _ _
theorem full_part(tm:(NB→NR)→Int→Int→NB→NR)(l:List S196)(k:Nat)(i:Int){s:NB}(h:fullN s=true):partN tm l k i s=(0,0,s):=by
 cases k with
 |zero=>rfl
 |succ k=>simp only[partN,h,if_true]
theorem full_minI(P:NB→NR):∀(m:Nat) (r:NR),fullN r.2.2=true→fullN (minI P m r).2.2.2=true
 |0,r,h=>h
 |m+1,r,h=>by simp only[minI,h,if_true]
theorem full_maxI(P:NB→NR):∀(m:Nat) (r:NR),fullN r.2.2=true→fullN (maxI P m r).2.2=true
 |0,r,h=>h
 |m+1,r,h=>by simp only[maxI,h,if_true]
theorem full_timesL(P:NB→NR)(mn op:Int):∀(m:Nat) (i:Int) (r:NR),fullN r.2.2=true→fullN (timesL P mn op m i r).2.2=true
 |0,_,r,h=>h
 |m+1,i,r,h=>by simp only[timesL,h,if_true]
theorem min_ag{P1 P2:NB→NR}(h:∀s:NB,0≤s.1→Ag (P1 s) (P2 s))(hn:∀s:NB,0≤s.1→0≤(P1 s).2.2.1)(mn op:Int)(rest:Nat):∀(m:Nat) (i:Int) (r:NR),0≤r.2.2.1→i+m=mn→
    ((minI P1 m r).1=false∧timesL P2 mn op (rest+m) i r=timesL P2 mn op rest mn (minI P1 m r).2)∨(fullN (minI P1 m r).2.2.2=true∧fullN (timesL P2 mn op (rest+m) i r).2.2=true)
  |0,i,r,_,hi=> .inl ⟨rfl,by rw[show i=mn by omega];rfl⟩
  | m + 1,i,r,h0,hi=>by
    cases hf:fullN r.2.2
    · have e1:minI P1 (m+1) r=minI P1 m (joinN r.1 r.2.1 (P1 r.2.2)):=by simp[minI,hf]
      have e2:timesL P2 mn op (rest+(m+1)) i r=timesL P2 mn op (rest+m) (i+1) (joinN r.1 r.2.1 (P2 r.2.2)):=by
        rw[←Nat.add_assoc];simp only[timesL,hf,Bool.false_eq_true,if_false];rw[iN (by omega)]
      rw[e1,e2];have hj:0≤(joinN r.1 r.2.1 (P1 r.2.2)).2.2.1:=by
        have:=hn r.2.2 h0;unfold joinN;split
        ·exact this
        ·exact this
      rcases h r.2.2 h0 with h1| ⟨h1,h2⟩
      · rw[←h1]
        exact min_ag h hn mn op rest m (i+1) _ hj (by omega)
      ·exact .inr ⟨full_minI P1 m _ (full_join h1 _ _),full_timesL P2 mn op _ _ _ (full_join h2 _ _)⟩
    ·refine .inr ⟨full_minI P1 _ _ hf,full_timesL P2 mn op _ _ _ hf⟩
theorem max_ag{P1 P2:NB→NR}(h:∀s:NB,0≤s.1→Ag (P1 s) (P2 s))(hn:∀s:NB,0≤s.1→0≤(P1 s).2.2.1)(mn:Int):∀(m:Nat) (i:Int) (r:NR),0≤r.2.2.1→mn≤i→Ag (maxI P1 m r) (timesL P2 mn 7 m i r)
  |0,i,r,_,hi=> .inl rfl
  | m + 1,i,r,h0,hi=>by
    cases hf:fullN r.2.2
    · simp only[maxI,timesL,hf,Bool.false_eq_true,if_false]
      rw [iP hi];have hj:0≤(joinN r.1 r.2.1 (loopN 7 (P1 r.2.2).1 (P1 r.2.2).2.1 (P1 r.2.2).2.2)).2.2.1:=by
        have:=hn r.2.2 h0;have e:0≤(loopN 7 (P1 r.2.2).1 (P1 r.2.2).2.1 (P1 r.2.2).2.2).2.2.1:=by
          simp only[loopN,edgeN,if_true];split<;>(simp only[];omega)
        unfold joinN;split
        ·exact e
        ·exact e
      rcases h r.2.2 h0 with h1| ⟨h1,h2⟩
      · rw[←h1]
        exact max_ag h hn mn m (i+1) _ hj (by omega)
      ·exact .inr ⟨full_maxI P1 m _ (full_join (full_loop h1 _ _ _) _ _),full_timesL P2 mn 7 _ _ _ (full_join (full_loop h2 _ _ _) _ _)⟩
    ·exact .inr ⟨full_maxI P1 _ _ hf,full_timesL P2 mn 7 _ _ _ hf⟩
theorem loop_pos(op a z:Int)(s:NB)(h:0≤s.1):0≤(loopN op a z s).1∧0≤(loopN op a z s).2.1∧0≤(loopN op a z s).2.2.1:=by
 unfold loopN;refine⟨h,by dsimp only;omega,?_⟩;simp only[edgeN];split<;>split<;>(simp only[];omega)
theorem join_pos{f t:Int}{r:NR}(h:0≤r.1∧0≤r.2.1∧0≤r.2.2.1)(hf:f<0∨0≤f):0≤(joinN f t r).1∧0≤(joinN f t r).2.1∧0≤(joinN f t r).2.2.1:=by
 unfold joinN;split
 ·exact h
 ·exact⟨by dsimp only;omega,h.2.1,h.2.2⟩
def PosP(P:NB→NR):Prop:=∀s:NB,0≤s.1→0≤(P s).1∧0≤(P s).2.1∧0≤(P s).2.2.1
theorem timesL_pos{P:NB→NR}(hP:PosP P)(mn op:Int):∀(m:Nat) (i:Int) (r:NR),0≤r.1→0≤r.2.1→0≤r.2.2.1→0≤(timesL P mn op m i r).1∧0≤(timesL P mn op m i r).2.1∧0≤(timesL P mn op m i r).2.2.1
  |0,_,r,h0,h1,h2=>⟨h0,h1,h2⟩
  | m + 1,i,r,h0,h1,h2=>by
    cases hf:fullN r.2.2
    · simp only[timesL,hf,Bool.false_eq_true,if_false]
      have hq:=hP r.2.2 h2;have hj:0≤(joinN r.1 r.2.1 (if i≥mn then loopN op (P r.2.2).1 (P r.2.2).2.1 (P r.2.2).2.2 else P r.2.2)).1∧0≤(joinN r.1 r.2.1 (if i≥mn then loopN op (P r.2.2).1 (P r.2.2).2.1 (P r.2.2).2.2 else P r.2.2)).2.1∧0≤(joinN r.1 r.2.1 (if i≥mn then loopN op (P r.2.2).1 (P r.2.2).2.1 (P r.2.2).2.2 else P r.2.2)).2.2.1:=by
        refine join_pos ?_ (.inr h0);split
        ·exact loop_pos _ _ _ _ hq.2.2
        ·exact hq
      exact timesL_pos hP mn op m (i+1) _ hj.1 hj.2.1 hj.2.2
    · simp only[timesL,hf,if_true]
      exact⟨h0,h1,h2⟩
theorem timesL_first{P:NB→NR}(hP:PosP P)(mn op:Int)(m:Nat)(i:Int)(s:NB)(h0:0≤s.1)(hs:fullN s=false):0≤(timesL P mn op (m+1) i (-1, -1,s)).1∧0≤(timesL P mn op (m+1) i (-1, -1,s)).2.1:=by
 simp only[timesL,hs,Bool.false_eq_true,if_false];have hq:=hP s h0;have hj:0≤(joinN (-1) (-1) (if i≥mn then loopN op (P s).1 (P s).2.1 (P s).2.2 else P s)).1∧0≤(joinN (-1) (-1) (if i≥mn then loopN op (P s).1 (P s).2.1 (P s).2.2 else P s)).2.1∧0≤(joinN (-1) (-1) (if i≥mn then loopN op (P s).1 (P s).2.1 (P s).2.2 else P s)).2.2.1:=by
  refine join_pos ?_ (.inl (by omega));split
  ·exact loop_pos _ _ _ _ hq.2.2
  ·exact hq
 have h:=timesL_pos hP mn op m (i+1) _ hj.1 hj.2.1 hj.2.2;exact⟨h.1,h.2.1⟩
theorem timesL_state{P:NB→NR}(hP:PosP P)(mn op:Int):∀(m:Nat) (i:Int) (r:NR),0≤r.2.2.1→0≤(timesL P mn op m i r).2.2.1
  |0,_,r,h2=>h2
  | m + 1,i,r,h2=>by
    cases hf:fullN r.2.2
    · simp only[timesL,hf,Bool.false_eq_true,if_false]
      have hq:=hP r.2.2 h2;refine timesL_state hP mn op m (i+1) _ ?_;have e:0≤(if i≥mn then loopN op (P r.2.2).1 (P r.2.2).2.1 (P r.2.2).2.2 else P r.2.2).2.2.1:=by
        split
        ·exact(loop_pos _ _ _ _ hq.2.2).2.2
        ·exact hq.2.2
      unfold joinN;split
      ·exact e
      ·exact e
    · simp only[timesL,hf,if_true]
      exact h2
theorem times_ag{P1 P2:NB→NR}(h:∀s:NB,0≤s.1→Ag (P1 s) (P2 s))(hn:∀s:NB,0≤s.1→0≤(P1 s).2.2.1)(hP:PosP P2)(hfull1:∀s:NB,fullN s=true→fullN (P1 s).2.2=true)(mn mx:Int)(s:NB)(h0:0≤s.1)(hs:fullN s=false)(hm:0≤mn)(hx:mx= -1∨(mn≤mx∧1≤mx)):
    Ag (timesI P1 mn mx s) (timesS P2 mn mx s):=by
  have key :Ag (timesI P1 mn mx s) (timesL P2 mn (loopOp mx) (manyS mn mx).toNat 0 (-1, -1,s)):=by
    have hmany:(manyS mn mx).toNat=(manyS mn mx-mn).toNat+mn.toNat:=by
     unfold manyS;split<;>omega
    rw [hmany];have hA:=min_ag h hn mn (loopOp mx) ((manyS mn mx-mn).toNat) mn.toNat 0 (-1, -1,s) h0 (by omega);have hst:∀(m:Nat) (r:NR),0≤r.2.2.1→0≤(minI P1 m r).2.2.2.1:=by
      intro m
      induction m with
      |zero=>exact fun r hr=>hr
      | succ m ih=>
        intro r hr;simp only[minI];split
        ·exact hr
        · refine ih _ ?_
          have:=hn r.2.2 hr;unfold joinN;split
          ·exact this
          ·exact this
    have hst2:=hst mn.toNat (-1, -1,s) h0;unfold timesI;rcases hA with⟨e1,e2⟩| ⟨e1,e2⟩
    · rw [e1,iN (by simp),e2]
      generalize(minI P1 mn.toNat (-1, -1,s)).2=r at *;by_cases c:mx<0
      · have o1:loopOp mx=5:=iP c
        have o2:(manyS mn mx-mn).toNat=1:=by unfold manyS;rw[iP c];omega
        have o3:(mx-mn).toNat=0:=by omega
        rw[o1,o2,o3];unfold restI;rw[iP c];show Ag (joinN r.1 r.2.1 (loopN 5 (P1 r.2.2).1 (P1 r.2.2).2.1 (P1 r.2.2).2.2)) _
        cases hf:fullN r.2.2
        · simp only[timesL,hf,Bool.false_eq_true,if_false]
          rw[iP (by omega)];rcases h r.2.2 hst2 with h1| ⟨h1,h2⟩
          · rw[h1]
            exact .inl rfl
          ·exact .inr ⟨full_join (full_loop h1 _ _ _) _ _,full_join (full_loop h2 _ _ _) _ _⟩
        · simp only[timesL,hf,if_true]
          rcases h r.2.2 hst2 with h1| ⟨h1,h2⟩
          ·exact .inr ⟨full_join (full_loop (hfull1 _ hf) _ _ _) _ _,hf⟩
          ·exact .inr ⟨full_join (full_loop h1 _ _ _) _ _,hf⟩
      · have o1:loopOp mx=7:=iN c
        have o2:(manyS mn mx-mn).toNat=(mx-mn).toNat:=by unfold manyS;rw[iN c]
        rw[o1,o2];unfold restI;rw[iN c];exact max_ag h hn mn _ mn r hst2 (by omega)
    · split
      ·exact .inr ⟨e1,e2⟩
      · refine .inr ⟨full_maxI P1 _ _ ?_,e2⟩
        unfold restI;split
        ·exact full_join (full_loop (hfull1 _ e1) _ _ _) _ _
        ·exact e1
  unfold timesS;rcases key with h1| ⟨h1,h2⟩
  ·obtain⟨m,hm1⟩:∃m,(manyS mn mx).toNat=m+1:=⟨(manyS mn mx).toNat-1,by unfold manyS;split<;>omega⟩
   have hp:=timesL_first hP mn (loopOp mx) m 0 s h0 hs;rw[←hm1]at hp;rw[h1];generalize timesL P2 mn (loopOp mx) (manyS mn mx).toNat 0 (-1, -1,s)=r at *;refine .inl ?_;obtain⟨a,b,c⟩:=r;dsimp only at hp ⊢;rw[Int.max_eq_right hp.1,Int.max_eq_right hp.2]
  ·exact .inr ⟨h1,h2⟩
end Go.Proofs.Ytlecpdpdcocibaa.P
namespace Go.Proofs.Ytlecpdpdcocibaa.P
open Go.RowKit Go.Shelf Go.Proofs.YtlecpdpdcocibaaW.PrintWords Go.Proofs.YtlecpdpdcocibaaW.PrintLast Go.Proofs.YtlecpdpdcocibaaW.PrintMore Go.Proofs.YtlecpdpdcocibaaEv
set_option linter.unusedVariables false
set_option linter.unusedSimpArgs false
theorem loopS_hand{w0:World}(ok:Nat→Prop)(g:Nat)(n op a z:Int)(es:List S116)(en:List S138)(w:World)(hI:BdS 186 w0 w ok g n es en)(hB:Below w0.heap.size w0 w)(hF:∀k,w.heap.size≤k→ok k)(hn:0≤n∧n≤900000)(hl:es.length≤900000):
   Calls Try.prog 147 #[.pointer (some ⟨g,0,none⟩), .int .i64 op, .int .i64 a, .int .i64 z] w fun e w'=>e= .returned (.tuple #[.int .i64 (loopN op a z (n,es)).1, .int .i64 (loopN op a z (n,es)).2.1])∧BdS 186 w0 w' ok g (loopN op a z (n,es)).2.2.1 (loopN op a z (n,es)).2.2.2 en∧Below w0.heap.size w0 w'∧KeepB w w' ok g:=by
 have FR:=q_ (FrB.here hI hB);have FR0:=q_ hF;have T1:J0 True:=⟨trivial⟩;have T2:J0 True:=⟨trivial⟩;clear hI hB hF;by_cases c6:op=6
 ·have e6:(op != 6)=false:=bne_eq_false_iff_eq.mpr c6
  have e7:(op != 7)=true:=bne_iff_ne.mpr (by omega);obtain⟨L,hL⟩:∃L,L=loopN op a z (n,es):=⟨_,rfl⟩;rw[←hL];unfold loopN at hL;rw[iN (show ¬op=7 by omega),iP c6]at hL;have HL:=q_ hL;clear hL c6;go_enter Try.func147,Try.ntmps147
  go_wp2_with(first
   | (go_at_call 145;clear T1;(with_reducible refine(stateS_hand ok g _ _ en _ FR.o.st FR.o.lo (by omega)).mono ?_);rintro e w7 ⟨rfl,hI,hB,hK⟩;replace FR:=q_ (FR.o.call hI hB hK);clear hI hB hK)
   | (go_at_call 145;clear T2;(with_reducible refine(stateS_hand ok g _ _ en _ FR.o.st FR.o.lo (by omega)).mono ?_);rintro e w7 ⟨rfl,hI,hB,hK⟩;replace FR:=q_ (FR.o.call hI hB hK);clear hI hB hK)
   | (go_at_call 135;refine(edgeS_hand ok g _ _ _ _ en none 0 [] _ FR.o.st FR.o.lo (FR.o.fr FR0.o) (Kd.C_nil _ _) (Nat.le_refl _) (by simp) (by first|omega| (simp;omega))).mono ?_;rintro e w7 ⟨rfl,hI,hB,hK⟩;replace FR:=q_ (FR.o.call hI hB hK);clear hI hB hK))
  go_ret2
  rw[HL.o];have e2:n+1+1=n+2:=by omega
  rw[e2]at FR;exact⟨rfl,FR.o.fin0⟩
 by_cases c7:op=7
 ·have e6:(op != 6)=true:=bne_iff_ne.mpr c6
  have e7:(op != 7)=false:=bne_eq_false_iff_eq.mpr c7;obtain⟨L,hL⟩:∃L,L=loopN op a z (n,es):=⟨_,rfl⟩;rw[←hL];unfold loopN at hL;rw[iP c7,iN c6]at hL;have HL:=q_ hL;clear hL c6 c7;go_enter Try.func147,Try.ntmps147
  go_wp2_with(first
   | (go_at_call 145;clear T1;(with_reducible refine(stateS_hand ok g _ _ en _ FR.o.st FR.o.lo (by omega)).mono ?_);rintro e w7 ⟨rfl,hI,hB,hK⟩;replace FR:=q_ (FR.o.call hI hB hK);clear hI hB hK)
   | (go_at_call 145;clear T2;(with_reducible refine(stateS_hand ok g _ _ en _ FR.o.st FR.o.lo (by omega)).mono ?_);rintro e w7 ⟨rfl,hI,hB,hK⟩;replace FR:=q_ (FR.o.call hI hB hK);clear hI hB hK)
   | (go_at_call 135;refine(edgeS_hand ok g _ _ _ _ en none 0 [] _ FR.o.st FR.o.lo (FR.o.fr FR0.o) (Kd.C_nil _ _) (Nat.le_refl _) (by simp) (by first|omega| (simp;omega))).mono ?_;rintro e w7 ⟨rfl,hI,hB,hK⟩;replace FR:=q_ (FR.o.call hI hB hK);clear hI hB hK))
  go_ret2
  rw[HL.o];have e2:n+1+1=n+2:=by omega
  rw[e2]at FR;exact⟨rfl,FR.o.fin0⟩
 ·have e6:(op != 6)=true:=bne_iff_ne.mpr c6
  have e7:(op != 7)=true:=bne_iff_ne.mpr c7;obtain⟨L,hL⟩:∃L,L=loopN op a z (n,es):=⟨_,rfl⟩;rw[←hL];unfold loopN at hL;rw[iN c7,iN c6]at hL;have HL:=q_ hL;clear hL c6 c7;go_enter Try.func147,Try.ntmps147
  go_wp2_with(first
   | (go_at_call 145;clear T1;(with_reducible refine(stateS_hand ok g _ _ en _ FR.o.st FR.o.lo (by omega)).mono ?_);rintro e w7 ⟨rfl,hI,hB,hK⟩;replace FR:=q_ (FR.o.call hI hB hK);clear hI hB hK)
   | (go_at_call 145;clear T2;(with_reducible refine(stateS_hand ok g _ _ en _ FR.o.st FR.o.lo (by omega)).mono ?_);rintro e w7 ⟨rfl,hI,hB,hK⟩;replace FR:=q_ (FR.o.call hI hB hK);clear hI hB hK)
   | (go_at_call 135;refine(edgeS_hand ok g _ _ _ _ en none 0 [] _ FR.o.st FR.o.lo (FR.o.fr FR0.o) (Kd.C_nil _ _) (Nat.le_refl _) (by simp) (by first|omega| (simp;omega))).mono ?_;rintro e w7 ⟨rfl,hI,hB,hK⟩;replace FR:=q_ (FR.o.call hI hB hK);clear hI hB hK))
  go_ret2
  rw[HL.o];have e2:n+1+1=n+2:=by omega
  rw[e2]at FR;exact⟨rfl,FR.o.fin0⟩
end Go.Proofs.Ytlecpdpdcocibaa.P
namespace Go.Proofs.Ytlecpdpdcocibaa.P
open Go.RowKit Go.Proofs.YtlecpdpdcocibaaW.PrintWords Go.Proofs.YtlecpdpdcocibaaW.PrintLast Go.Proofs.YtlecpdpdcocibaaW.PrintMore Go.Proofs.YtlecpdpdcocibaaEv
set_option linter.unusedVariables false
set_option linter.unusedSimpArgs false
theorem rd_in(l:List Int)(i:Nat)(h:i<l.length):rd l (i:Int)∈l:=by
 unfold rd;rw[List.getD_eq_getElem?_getD,Int.toNat_natCast,List.getElem?_eq_getElem h];exact List.getElem_mem _
theorem node_ops{nodes:List S196}{k:Nat}(h:nodeAt nodes k=true):((rd_T196 nodes (k:Int)).f0=1∨(rd_T196 nodes (k:Int)).f0=2)∨
   (((rd_T196 nodes (k:Int)).f0=3∨(rd_T196 nodes (k:Int)).f0=4)∧(rd_T196 nodes (k:Int)).f2.length=2)∨
   (((rd_T196 nodes (k:Int)).f0=5∨(rd_T196 nodes (k:Int)).f0=6∨(rd_T196 nodes (k:Int)).f0=7∨(rd_T196 nodes (k:Int)).f0=8)∧(rd_T196 nodes (k:Int)).f2.length=1):=by
 obtain⟨_,h1,_⟩:=node_kids h;unfold kidsN at h1;split at h1
 ·exact .inl ‹_›
 ·split at h1
  ·exact .inr (.inl ⟨‹_›,by omega⟩)
  ·split at h1
   ·exact .inr (.inr ⟨‹_›,by omega⟩)
   ·omega
theorem node_kid{nodes:List S196}{k:Nat}(h:nodeAt nodes k=true)(i:Nat)(hi:i<(rd_T196 nodes (k:Int)).f2.length):rd (rd_T196 nodes (k:Int)).f2 (i:Int)=(((rd (rd_T196 nodes (k:Int)).f2 (i:Int)).toNat:Nat):Int)∧(rd (rd_T196 nodes (k:Int)).f2 (i:Int)).toNat<k:=by
 obtain⟨_,_,h2⟩:=node_kids h;have:=h2 _ (rd_in _ i hi);omega
theorem node_set_few{nodes:List S196}{k:Nat}(h:nodeAt nodes k=true):(rd_T196 nodes (k:Int)).f1.length≤128:=by
 unfold nodeAt nodeB at h;simp only[Bool.and_eq_true]at h;have h2:=h.1.2;split at h2
 ·simp only[Bool.and_eq_true]at h2
  exact classB_few h2.1
 ·have:=ot_ h2
  omega
def StP(P:NB→NR):Prop:=∀s:NB,0≤s.1→0≤(P s).2.2.1
theorem join_st{f t:Int}{r:NR}(h:0≤r.2.2.1):0≤(joinN f t r).2.2.1:=by
 unfold joinN;split
 ·exact h
 ·exact h
theorem loop_st{op a z:Int}{s:NB}(h:0≤s.1):0≤(loopN op a z s).2.2.1:=(loop_pos op a z s h).2.2
theorem minI_st{P:NB→NR}(hP:StP P):∀(m:Nat) (r:NR),0≤r.2.2.1→0≤(minI P m r).2.2.2.1
 |0,r,h=>h
 | m+1,r,h=>by
   simp only[minI];split
   ·exact h
   ·exact minI_st hP m _ (join_st (hP _ h))
theorem maxI_st{P:NB→NR}(hP:StP P):∀(m:Nat) (r:NR),0≤r.2.2.1→0≤(maxI P m r).2.2.1
 |0,r,h=>h
 | m+1,r,h=>by
   simp only[maxI];split
   ·exact h
   ·exact maxI_st hP m _ (join_st (loop_st (hP _ h)))
theorem timesI_st{P:NB→NR}(hP:StP P)(mn mx:Int)(s:NB)(h:0≤s.1):0≤(timesI P mn mx s).2.2.1:=by
 have h1:=minI_st hP mn.toNat (-1, -1,s) h;unfold timesI;split
 ·exact h1
 ·refine maxI_st hP _ _ ?_
  unfold restI;split
  ·exact join_st (loop_st (hP _ h1))
  ·exact h1
theorem partI_st(l:List S196):∀(k:Nat) (i:Int),StP (partN timesI l k i)
 |0,_,s,h=>h
 | k + 1,i,s,h=>by
   have ih:=partI_st l k;simp only[partN];split
   ·exact h
   split
   ·show 0≤s.1+2;omega
   split
   ·exact ih _ _ (ih _ _ h)
   split
   · show 0≤(partN timesI l k _ _).2.2.1+2
     have:=ih (rd (rd_T196 l i).f2 1) _ (ih (rd (rd_T196 l i).f2 0) s h);omega
   split
   ·exact timesI_st (ih _) _ _ s h
   ·exact loop_st (ih _ _ h)
theorem partS_pos(l:List S196):∀(k:Nat) (i:Int),PosP (partN timesS l k i)
 |0,_,s,h=>⟨Int.le_refl _,Int.le_refl _,h⟩
 | k+1,i,s,h=>by
   have ih:=partS_pos l k;simp only[partN];split
   ·exact⟨Int.le_refl _,Int.le_refl _,h⟩
   split
   ·exact⟨h,(by show 0≤s.1+1;omega),(by show 0≤s.1+2;omega)⟩
   have q:=ih (rd (rd_T196 l i).f2 0) s h;have u:=ih (rd (rd_T196 l i).f2 1) _ q.2.2;split
   ·exact⟨q.1,u.2.1,u.2.2⟩
   split
   ·exact⟨u.2.2,(by show 0≤(partN timesS l k _ _).2.2.1+1;omega),(by show 0≤(partN timesS l k _ _).2.2.1+2;omega)⟩
   split
   ·exact⟨Int.le_max_left _ _,Int.le_max_left _ _,timesL_state (ih _) _ _ _ _ _ h⟩
   ·exact loop_pos _ _ _ _ q.2.2
theorem node_counts{l:List S196}{j:Nat}(h:nodeAt l j=true)(h8:(rd_T196 l (j:Int)).f0=8):0≤(rd_T196 l (j:Int)).f3∧(rd_T196 l (j:Int)).f3≤30∧((rd_T196 l (j:Int)).f4= -1∨((rd_T196 l (j:Int)).f3≤(rd_T196 l (j:Int)).f4∧1≤(rd_T196 l (j:Int)).f4))∧(rd_T196 l (j:Int)).f4≤30:=by
 unfold nodeAt nodeB at h;simp only[Bool.and_eq_true,h8,if_true]at h;have h2:=h.2;unfold timesB at h2;simp only[Bool.and_eq_true,Bool.or_eq_true,decide_eq_true_eq,Bool.not_eq_true',decide_eq_false_iff_not]at h2;omega
theorem part_ag(l:List S196)(hok:∀j,j<l.length→nodeAt l j=true):∀(k j:Nat) (s:NB),j<l.length→0≤s.1→Ag (partN timesI l k (j:Int) s) (partN timesS l k (j:Int) s)
  |0,_,_,_,_=> .inl rfl
  | k + 1, j,s,hj,h0=>by
    cases hf:fullN s;rotate_left
    · rw[full_part _ _ _ _ hf,full_part _ _ _ _ hf]
      exact .inl rfl
    have kid:∀i:Nat,i<(rd_T196 l (j:Int)).f2.length→∀s:NB,0≤s.1→Ag (partN timesI l k (rd (rd_T196 l (j:Int)).f2 (i:Int)) s) (partN timesS l k (rd (rd_T196 l (j:Int)).f2 (i:Int)) s):=by
      intro i hi s hs;obtain⟨h1,h2⟩:=node_kid (hok j hj) i hi;rw[h1];exact part_ag l hok k _ s (by omega) hs
    have k0:=kid 0;have k1:=kid 1;simp only[Int.ofNat_zero,Int.natCast_one,Int.cast_ofNat_Int]at k0 k1;have hst:=partI_st l k (rd (rd_T196 l (j:Int)).f2 0);have hfl:∀(i:Int) (s:NB),fullN s=true→fullN (partN timesI l k i s).2.2=true:=fun i s h=>by rw[full_part _ _ _ _ h];exact h
    have hfl2:∀(i:Int) (s:NB),fullN s=true→fullN (partN timesS l k i s).2.2=true:=fun i s h=>by rw[full_part _ _ _ _ h];exact h
    simp only[partN,hf,Bool.false_eq_true,if_false];have two:1<(rd_T196 l (j:Int)).f2.length→(partN timesI l k (rd (rd_T196 l (j:Int)).f2 0) s=partN timesS l k (rd (rd_T196 l (j:Int)).f2 0) s∧partN timesI l k (rd (rd_T196 l (j:Int)).f2 1) (partN timesI l k (rd (rd_T196 l (j:Int)).f2 0) s).2.2=partN timesS l k (rd (rd_T196 l (j:Int)).f2 1) (partN timesS l k (rd (rd_T196 l (j:Int)).f2 0) s).2.2)∨
        (fullN (partN timesI l k (rd (rd_T196 l (j:Int)).f2 1) (partN timesI l k (rd (rd_T196 l (j:Int)).f2 0) s).2.2).2.2=true∧fullN (partN timesS l k (rd (rd_T196 l (j:Int)).f2 1) (partN timesS l k (rd (rd_T196 l (j:Int)).f2 0) s).2.2).2.2=true):=by
      intro hl;have a:=hst s h0;rcases k0 (by omega) s h0 with h1| ⟨h1,h2⟩
      · rw[←h1]
        rcases k1 hl _ a with h3|h3
        ·exact .inl ⟨rfl,h3⟩
        ·exact .inr h3
      ·exact .inr ⟨hfl _ _ h1,hfl2 _ _ h2⟩
    rcases node_ops (hok j hj)with(h|h)| ⟨h|h,hl⟩| ⟨h|h|h|h,hl⟩
    ·rw[iP (.inl h),iP (.inl h)];exact .inl rfl
    ·rw[iP (.inr h),iP (.inr h)];exact .inl rfl
    · simp only[h]
      rcases two (by omega)with⟨h1,h2⟩| ⟨h1,h2⟩
      · refine .inl ?_
        simp only[show ¬((3:Int)=1∨(3:Int)=2) by omega,if_false,if_true];rw[h2,h1]
      · refine .inr ?_
        simp only[show ¬((3:Int)=1∨(3:Int)=2) by omega,if_false,if_true];exact⟨full_edge h1 _ _ _,full_edge h2 _ _ _⟩
    · simp only[h]
      rcases two (by omega)with⟨h1,h2⟩| ⟨h1,h2⟩
      · refine .inl ?_
        simp only[show ¬((4:Int)=1∨(4:Int)=2) by omega,show ¬(4:Int)=3 by omega,if_false,if_true];rw[h2,h1]
      · refine .inr ?_
        simp only[show ¬((4:Int)=1∨(4:Int)=2) by omega,show ¬(4:Int)=3 by omega,if_false,if_true];exact⟨full_edge (full_edge (full_edge (full_edge (full_two h1) _ _ _) _ _ _) _ _ _) _ _ _,full_edge (full_edge (full_edge (full_edge (full_two h2) _ _ _) _ _ _) _ _ _) _ _ _⟩
    all_goals first
      | (have h8:(rd_T196 l (j:Int)).f0=8:=h
         have ht:=node_counts (hok j hj) h8;simp only[h8,show ¬((8:Int)=1∨(8:Int)=2) by omega,show ¬(8:Int)=3 by omega,show ¬(8:Int)=4 by omega,if_false,if_true];exact times_ag (fun s hs=>k0 (by omega) s hs) hst (partS_pos l k _) (fun s hs=>hfl _ s hs) _ _ s h0 hf ht.1 ht.2.2.1)
      | (rw[iN (by omega),iN (by omega),iN (by omega),iN (by omega),iN (by omega),iN (by omega),iN (by omega),iN (by omega)]
         rcases k0 (by omega) s h0 with h1| ⟨h1,h2⟩
         · rw[h1]
           exact .inl rfl
         ·exact .inr ⟨full_loop h1 _ _ _,full_loop h2 _ _ _⟩)
def Bn(c:Nat)(s:NB):Prop:=0≤s.1∧s.1≤10000+c∧s.2.length≤20000+c
theorem Bn.le{c d:Nat}{s:NB}(h:Bn c s)(hd:c≤d):Bn d s:=⟨h.1,by have:=h.2.1;omega,by have:=h.2.2;omega⟩
theorem Bn.small{s:NB}(h:0≤s.1)(hf:fullN s=false):Bn 0 s:=by
 have:¬(s.1>3000∨(s.2.length:Int)>12000):=fun h=>by rw[(full_iff s).2 h]at hf;cases hf
 exact⟨h,by omega,by omega⟩
theorem Bn.edge{c:Nat}{s:NB}(h:Bn c s)(a b:Int)(x:List S163):Bn (c+1) (edgeN s a b x):=by
 obtain⟨h1,h2,h3⟩:=h;exact⟨h1,by show s.1≤_;omega,by simp only[edgeN,List.length_append,List.length_singleton];omega⟩
theorem Bn.two{c:Nat}{s:NB}(h:Bn c s):Bn (c+2) (s.1+2,s.2):=⟨by have:=h.1;show 0≤s.1+2;omega,by have:=h.2.1;show s.1+2≤_;omega,by have:=h.2.2;show s.2.length≤_;omega⟩
theorem Bn.loop{c:Nat}{s:NB}(h:Bn c s)(op a z:Int):Bn (c+6) (loopN op a z s).2.2:=by
 unfold loopN;refine Bn.edge (c:=c+5) ?_ _ _ _;have h1:=(h.two.edge s.1 a []).le (show c+2+1≤c+3 by omega);have h2:=(h1.edge s.1 (s.1+1) []).le (show c+3+1≤c+4 by omega);split
 ·split
  ·exact h1.le (by omega)
  ·exact h2.le (by omega)
 ·refine(Bn.edge (c:=c+4) ?_ _ _ _).le (by omega)
  split
  ·exact h1.le (by omega)
  ·exact h2
theorem Bn.join{c:Nat}{r:NR}(h:Bn c r.2.2)(f t:Int):Bn (c+1) (joinN f t r).2.2:=by
 unfold joinN;split
 ·exact h.le (by omega)
 ·exact h.edge _ _ _
def BnP(C:Nat)(P:NB→NR):Prop:=∀(c:Nat) (s:NB),Bn c s→Bn (max c C) (P s).2.2
theorem timesL_bn{C:Nat}{P:NB→NR}(hP:BnP C P)(mn op:Int):∀(m:Nat) (i:Int) (r:NR),Bn (C+8) r.2.2→Bn (C+8) (timesL P mn op m i r).2.2
 |0,_,r,h=>h
 | m + 1,i,r,h=>by
   cases hf:fullN r.2.2
   · simp only[timesL,hf,Bool.false_eq_true,if_false]
     refine timesL_bn hP mn op m _ _ ?_;have:=(hP 0 _ (Bn.small h.1 hf)).le (show max 0 C≤C by omega);split
     ·exact((this.loop _ _ _).join _ _).le (by omega)
     ·exact(this.join _ _).le (by omega)
   · simp only[timesL,hf,if_true]
     exact h
theorem timesS_bn{C:Nat}{P:NB→NR}(hP:BnP C P)(mn mx:Int)(s:NB)(h:Bn 0 s):Bn (C+8) (timesS P mn mx s).2.2:=timesL_bn hP _ _ _ _ _ (h.le (by omega))
theorem part_bn(tm:(NB→NR)→Int→Int→NB→NR)(htm:∀(C:Nat) (P:NB→NR),BnP C P→∀(mn mx:Int) (s:NB),Bn 0 s→Bn (C+8) (tm P mn mx s).2.2)(l:List S196):∀(k:Nat) (i:Int),BnP (16*k) (partN tm l k i)
 |0,_,c,s,h=>h.le (by omega)
 | k + 1,i,c,s,h=>by
   have ih:=part_bn tm htm l k;cases hf:fullN s;rotate_left
   · rw[full_part _ _ _ _ hf]
     exact h.le (by omega)
   have h0:=Bn.small h.1 hf;have q:=(ih (rd (rd_T196 l i).f2 0) 0 s h0).le (show max 0 (16*k)≤16*k by omega);have u:=(ih (rd (rd_T196 l i).f2 1) (16*k) _ q).le (show max (16*k) (16*k)≤16*k by omega);simp only[partN,hf,Bool.false_eq_true,if_false];split
   ·exact(h0.two.edge _ _ _).le (by omega)
   split
   ·exact(u.edge _ _ _).le (by omega)
   split
   ·exact((((u.two.edge _ _ _).edge _ _ _).edge _ _ _).edge _ _ _).le (by omega)
   split
   ·exact(htm _ _ (ih _) _ _ s h0).le (by omega)
   ·exact(q.loop _ _ _).le (by omega)
theorem partS_bn(l:List S196)(k:Nat)(i:Int):BnP (16*k) (partN timesS l k i):=part_bn timesS (fun _ _ hP mn mx s h=>timesS_bn hP mn mx s h) l k i
def stepN(tm:(NB→NR)→Int→Int→NB→NR)(x:S196)(P0 P1:NB→NR)(s:NB):NR:=
 if x.f0=1∨x.f0=2 then setN x.f1 s
 else if x.f0=3 then catN (P0 s) (P1 (P0 s).2.2)
 else if x.f0=4 then altN (P0 s) (P1 (P0 s).2.2)
 else if x.f0=8 then tm P0 x.f3 x.f4 s
 else loopN x.f0 (P0 s).1 (P0 s).2.1 (P0 s).2.2
theorem partN_succ(tm:(NB→NR)→Int→Int→NB→NR)(l:List S196)(k:Nat)(i:Int){s:NB}(h:fullN s=false):partN tm l (k+1) i s=stepN tm (rd_T196 l i) (partN tm l k (rd (rd_T196 l i).f2 0)) (partN tm l k (rd (rd_T196 l i).f2 1)) s:=by
 simp only[partN,h,Bool.false_eq_true,if_false,stepN]
end Go.Proofs.Ytlecpdpdcocibaa.P
namespace Go.Proofs.Ytlecpdpdcocibaa.P
open Go.RowKit Go.Shelf Go.Proofs.YtlecpdpdcocibaaW.PrintWords Go.Proofs.YtlecpdpdcocibaaW.PrintLast Go.Proofs.YtlecpdpdcocibaaW.PrintMore Go.Proofs.YtlecpdpdcocibaaEv
set_option linter.unusedVariables false
set_option linter.unusedSimpArgs false
def PartC(F T:Nat)(w0:World)(A:Option Addr)(c:Nat)(l:List S196)(i:Int)(P:NB→NR):Prop:=
  ∀ (ok:Nat→Prop) (g:Nat) (n:Int) (es:List S116) (en:List S138) (w:World),BdS T w0 w ok g n es en→Below w0.heap.size w0 w→(∀k,w.heap.size≤k→ok k)→Bn 60000 (n,es)→
    Calls Try.prog F #[.pointer (some ⟨g,0,none⟩), .agg #[.slice A l.length c], .int .i64 i] w fun e w'=>e= .returned (.tuple #[.int .i64 (P (n,es)).1, .int .i64 (P (n,es)).2.1])∧BdS T w0 w' ok g (P (n,es)).2.2.1 (P (n,es)).2.2.2 en∧Below w0.heap.size w0 w'∧KeepB w w' ok g
theorem PartC.at{F T:Nat}{w0:World}{A:Option Addr}{c:Nat}{l:List S196}{i:Int}{P:NB→NR}(h:PartC F T w0 A c l i P){n a z n2:Int}{es es2:List S116}(hq:(a,z,n2,es2)=P (n,es))(hn:Bn 60000 (n,es)){ok:Nat→Prop}{g:Nat}{en:List S138}{w:World}(h1:BdS T w0 w ok g n es en)(h2:Below w0.heap.size w0 w)(h3:∀k,w.heap.size≤k→ok k):
   Calls Try.prog F #[.pointer (some ⟨g,0,none⟩), .agg #[.slice A l.length c], .int .i64 i] w fun e w'=>e= .returned (.tuple #[.int .i64 a, .int .i64 z])∧BdS T w0 w' ok g n2 es2 en∧Below w0.heap.size w0 w'∧KeepB w w' ok g:=by
 have h4:=h ok g n es en w h1 h2 h3 hn;rw[←hq]at h4;exact h4
end Go.Proofs.Ytlecpdpdcocibaa.P
namespace Go.Proofs.Ytlecpdpdcocibaa.P
open Go.RowKit Go.Proofs.YtlecpdpdcocibaaW.PrintWords Go.Proofs.YtlecpdpdcocibaaW.PrintLast Go.Proofs.YtlecpdpdcocibaaW.PrintMore Go.Proofs.YtlecpdpdcocibaaEv
set_option linter.unusedVariables false
set_option linter.unusedSimpArgs false
def part{α:Type}(M L:List α)(i:Nat):List α:=M.take i++L.drop i
variable {α:Type} {d:Kd α} {e base lo lo2 hi hi2:Nat} {w w1:World} {v:Value} {xs:List α} {P:Nat→Prop}
theorem C_of_R{A:Option Addr}{n c:Nat}(h:Kd.R d e w base P (.slice A n c) xs):Kd.C d w A xs.length xs:=(Kd.R_reads' h).2.2
theorem L_of_R{A:Option Addr}{n c:Nat}(h:Kd.R d e w base P (.slice A n c) xs):xs.length≤c:=(Kd.R_reads' h).1 ▸ (Kd.R_reads' h).2.1
theorem H_put{g n cap:Nat}{ok oki:Nat→Prop}{i:Int}{c:List Value}(h:Kd.H d e w base ok (.slice (some ⟨g,0,none⟩) n cap) xs i oki c)(h0:0≤i)(h1:i<n)(j:Nat)(u:Value)(hj:j+1≤d.sz)(hu:u.oneCell'=true):
   Kd.H d e (w.setCell ⟨g,i.toNat*d.sz+j,none⟩ u) base ok (.slice (some ⟨g,0,none⟩) n cap) xs i oki (c.take j++ [u]++c.drop (j+1))∧w.grownBy (w.setCell ⟨g,i.toNat*d.sz+j,none⟩ u) (some g):=
 Kd.H_seg h h0 h1 (seg:=[u]) (j:=j) hj (by simpa using hu)
theorem below_drawn(h:Drawn0 w w1):Below w.heap.size w w1:=by
 obtain⟨n,rfl⟩:=h;exact pw_below_drewN (Below.refl _ _) n
end Go.Proofs.Ytlecpdpdcocibaa.P
namespace Go.Proofs.Ytlecpdpdcocibaa.P
open Go.RowKit Go.Shelf Go.Proofs.YtlecpdpdcocibaaW.PrintWords Go.Proofs.YtlecpdpdcocibaaW.PrintLast Go.Proofs.YtlecpdpdcocibaaW.PrintMore Go.Proofs.YtlecpdpdcocibaaEv
set_option linter.unusedVariables false
set_option linter.unusedSimpArgs false
attribute [local go_sem] max2_int min2_int max_two min_two
theorem tup_{a b a2 b2:Int}(h:a=a2)(h2:b=b2):Ending.returned (.tuple #[.int .i64 a, .int .i64 b])= .returned (.tuple #[.int .i64 a2, .int .i64 b2]):=by rw[h,h2]
theorem timesL_done(P:NB→NR)(mn op i:Int)(r:NR):timesL P mn op 0 i r=r:=rfl
theorem timesL_full{P:NB→NR}{mn op:Int}{m:Nat}{i f t n:Int}{es:List S116}(h:fullB n es=true):timesL P mn op m i (f,t,(n,es))=(f,t,(n,es)):=by
 cases m with
 |zero=>rfl
 |succ m=>simp only[timesL,fullN,h,if_true]
theorem timesL_next{P:NB→NR}{mn op:Int}{m:Nat}{i f t n:Int}{es:List S116}(h:fullB n es=false):timesL P mn op (m+1) i (f,t,(n,es))=timesL P mn op m (i+1) (joinN f t (if i≥mn then loopN op (P (n,es)).1 (P (n,es)).2.1 (P (n,es)).2.2 else P (n,es))):=by
 simp only[timesL,fullN,h,Bool.false_eq_true,if_false]
theorem timesS_hand{w0:World}{A:Option Addr}{c:Nat}{l:List S196}{i:Int}{P:NB→NR}{C:Nat}(hP:PartC 134 186 w0 A c l i P)(hb:BnP C P)(hC:C≤20000)(ok:Nat→Prop)(g:Nat)(n:Int)(es:List S116)(en:List S138)(x:S196)(A1:Option Addr)(c1:Nat)(ad2:Addr)(c2:Nat)(w:World)(hI:BdS 186 w0 w ok g n es en)(hB:Below w0.heap.size w0 w)(hF:∀k,w.heap.size≤k→ok k)(hn:Bn 0 (n,es))(hk0:w0.cell? ad2=some (.int .i64 i))(hx2:0<x.f2.length)(hx3:0≤x.f3∧x.f3≤30)(hx4: -1≤x.f4∧x.f4≤30):
    Calls Try.prog 146 #[.pointer (some ⟨g,0,none⟩), .agg #[.slice A l.length c], .agg #[.int .i64 x.f0, .slice A1 x.f1.length c1, .slice (some ad2) x.f2.length c2, .int .i64 x.f3, .int .i64 x.f4]] w fun e w'=>e= .returned (.tuple #[.int .i64 (timesS P x.f3 x.f4 (n,es)).1, .int .i64 (timesS P x.f3 x.f4 (n,es)).2.1])∧BdS 186 w0 w' ok g (timesS P x.f3 x.f4 (n,es)).2.2.1 (timesS P x.f3 x.f4 (n,es)).2.2.2 en∧Below w0.heap.size w0 w'∧KeepB w w' ok g:=by
  obtain⟨R,hR⟩:∃R,R=timesL P x.f3 (loopOp x.f4) (manyS x.f3 x.f4).toNat 0 (-1, -1,(n,es)):=⟨_,rfl⟩;unfold timesS;rw[←hR];obtain⟨M,hM⟩:∃M,M=manyS x.f3 x.f4:=⟨_,rfl⟩;obtain⟨O,hO⟩:∃O,O=loopOp x.f4:=⟨_,rfl⟩;rw[←hM,←hO]at hR;have HR:=q_ hR.symm;have hM0:0≤M∧M≤31:=by
   rw[hM];unfold manyS;split<;>omega
  have HP:=q_ hP;have HBP:=q_ hb;have HC:=q_ hC;have HI:=q_ hI;have HB0:=q_ hB;have HF:=q_ hF;have HK0:=q_ hk0;have HN:=q_ (hn.le (show 0≤C+8 by omega));have HGW:=q_ (Bd_lt hI);have T0:J0 True:=⟨trivial⟩;have T1:J0 True:=⟨trivial⟩;have z0:(0≤(0:Int))=True:=eq_true (by omega);have q2:(0<x.f2.length)=True:=eq_true hx2;have q:(0<(x.f2.length:Int))=True:=eq_true (by omega);clear hP hb hC hn hR hI hB hF hk0 hx2;obtain⟨hx30,hx31⟩:=hx3;obtain⟨hx40,hx41⟩:=hx4;by_cases cm:x.f4<0
  · have em : decide (x.f4<0)=true:=decide_eq_true cm
    have eM:M=x.f3+1:=by rw[hM];unfold manyS;rw[iP cm]
    have eO:O=5:=by rw[hO];unfold loopOp;rw[iP cm]
    clear hM hO;subst eM eO;clear cm;go_enter Try.func146,Try.ntmps146
    go_wp2_with(first
     | ((with_reducible refine gate_dst (N:=4) rfl ?_);clear T0;refine bx_ 4 #[.slice A l.length c] 67 ?_;intro g1 hg w1 hbox hb;have BK1:=q_ hbox;have HW:=q_ hb;have G1:=q_ (Nat.le_of_eq hg.symm);clear hb hbox hg)
     | ((with_reducible refine gate_dst (N:=5) rfl ?_);clear T1;refine bx_ 5 #[.int .i64 x.f0, .slice A1 x.f1.length c1, .slice (some ad2) x.f2.length c2, .int .i64 x.f3, .int .i64 x.f4] 196 ?_;intro g2 hg w2 hbox hb;have BK2:=q_ hbox;have G2:=ge_ hg HW;replace BK1:=lb_ BK1 hb;replace HW:=sb_ HW hb;have FR:=q_ (FrB.start HI.o HB0.o HW.o);have FR0:=q_ (okF.free HF.o HW.o);clear hb hbox hg;obtain⟨hy0,hy1,hy2,hy3,hy4,hf0,hf1,hf2,hf3,hf4⟩:=d5_ BK2))
    clear hy0 hy1 hy2 hy3 hy4 hf0 hf1 hf2 hf3 hf4
    go_loopg [8,9,11] (32) (fun gg v8 v9 v11 wr=>∃(j f t n1:Int) (es1:List S116),v8= .int .i64 f∧v9= .int .i64 t∧v11= .int .i64 j∧0≤j∧j≤(x.f3+1)∧((x.f3+1)-j).toNat<gg∧J0 (timesL P x.f3 5 ((x.f3+1)-j).toNat j (f,t,(n1,es1))=R)∧J0 (Bn (C+8) (n1,es1))∧J0 (FrB 186 w0 w2 wr (okF ok w w2) g n1 es1 en))
    case atStart=>exact⟨0, -1, -1,n,es,rfl,rfl,rfl,by omega,by omega,by omega,⟨by rw[Int.sub_zero];exact HR.o⟩,HN,FR⟩
    case round =>
      clear FR HN HR;obtain⟨j,f,t,n1,es1,rfl,rfl,rfl,hj0,hj1,hgg,HR,HN,FR⟩:=hrel;obtain⟨hy0,hy1,hy2,hy3,hy4,hf0,hf1,hf2,hf3,hf4⟩:=d5_ (q_ (FR.o.blk BK2.o G2.o HGW.o));by_cases hlt:j<(x.f3+1)
      · have d1 :decide (j<(x.f3+1))=true:=decide_eq_true hlt
        rcases hf:fullB n1 es1 with _| _
        · have ef:=hf
          have hs:=Bn.small HN.o.1 (show fullN (n1,es1)=false from hf);have hbn:=(HBP.o 0 (n1,es1) hs).le (show max 0 C≤C by omega);obtain⟨⟨a,z,n2,es2⟩,hq⟩:∃q,q=P (n1,es1):=⟨_,rfl⟩;have hnx:=(timesL_next (P:=P) (mn:=x.f3) (op:=5) (m:=((x.f3+1)-(j+1)).toNat) (i:=j) (f:=f) (t:=t) hf).symm.trans (show timesL P x.f3 5 (((x.f3+1)-(j+1)).toNat+1) j (f,t,(n1,es1))=R by rw[show((x.f3+1)-(j+1)).toNat+1=((x.f3+1)-j).toNat by omega];exact HR.o);rw[←hq]at hbn hnx;have HNX:=q_ hnx;have HQ:=q_ hq;have HBN:=q_ hbn;have hs2:=HBN.o.1;have hs3:=HBN.o.2.1;have hs4:=HBN.o.2.2;have hcc:=HC.o;dsimp only at hs2 hs3 hs4;have HS1:=q_ (hs.le (show 0≤60000 by omega));clear hf hs hbn hq hnx HR HN
          go_wp2_with(go_at_call 144;(with_reducible refine(fullS_hand _ g _ _ en _ FR.o.st).mono ?_);rintro e w7 ⟨rfl,rfl⟩;rw[ef])
          clear ef hy0 hy1 hy2 hy3 hy4 hf0 hf1 hf2 hf3 hf4 d1;replace FR:=q_ FR.o.drew;refine start_ (n:=12) (S:=fun w'=>w'.cell? ⟨g1,0,none⟩=some (.slice A l.length c)∧w'.cell? ⟨g2,2,none⟩=some (.slice (some ad2) x.f2.length c2)∧w'.cell? ad2=some (.int .i64 i)) (ds:=[]) (bb 12 0) (by kernel_rfl) rfl rfl ⟨(blk_cell (FR.o.blk BK1.o G1.o HGW.o) 0).trans rfl,(blk_cell (FR.o.blk BK2.o G2.o HGW.o) 2).trans rfl,mv_ FR.o.lo HK0.o⟩ (fun hS=>?_);generalize World.drew _=wd at FR hS ⊢;refine pk_ 0 34 1 ?_;refine pk_ 2 36 5 ?_;refine tk_ 1 35 7 hS ?_;refine tk_ 3 37 15 hS ?_;refine pk_ 4 38 31 ?_;refine tk_ 5 39 63 hS ?_;refine one_ (i:=6) (N:=some 40) (bb 12 127) rfl rfl (by kernel_rfl) (by decide) (fun K hK=>?_);refine gs_ Try.func134 #[.pointer (some ⟨g,0,none⟩), .agg #[.slice A l.length c], .int .i64 i] ?_;(with_reducible refine(HP.out.at HQ.o HS1.o FR.o.st FR.o.lo (FR.o.fr FR0.o)).mono ?_);rintro e w7 ⟨rfl,hI,hB,hK2⟩;refine⟨_,rfl,?_⟩;replace FR:=q_ (FR.o.call hI hB hK2);clear hI hB hK2;refine hK.out _ _ ⟨(blk_cell (FR.o.blk BK1.o G1.o HGW.o) 0).trans rfl,(blk_cell (FR.o.blk BK2.o G2.o HGW.o) 2).trans rfl,mv_ FR.o.lo HK0.o⟩ (fun hS=>?_);clear hK K;refine no_ (some 40) ?_;refine pk_ 7 33 255 ?_;refine pk_ 8 41 511 ?_;refine pk_ 9 42 1023 ?_;refine pk_ 10 12 2047 ?_;refine pk_ 11 13 4095 ?_;refine done_ (by kernel_rfl) ?_;clear hS;obtain⟨hy0,hy1,hy2,hy3,hy4,hf0,hf1,hf2,hf3,hf4⟩:=d5_ (q_ (FR.o.blk BK2.o G2.o HGW.o));by_cases hge:j≥x.f3
          · by_cases hf0_:f<0
            · have d2:(j≥x.f3)=True:=eq_true (by omega)
              have d3:decide (j≥x.f3)=true:=by simp[d2]
              have d4:decide (f<0)=true:=decide_eq_true hf0_;have hb3:=HBN.o.loop 5 a z;have hb4:=hb3.1;have hb5:=hb3.2.1;have hb6:=hb3.2.2;clear hb3
              go_wp2_with(first
          | (go_at_call 147;(with_reducible refine(loopS_hand _ g _ _ _ _ _ en _ FR.o.st FR.o.lo (FR.o.fr FR0.o) (by omega) (by omega)).mono ?_);rintro e w7 ⟨rfl,hI,hB,hK⟩;replace FR:=q_ (FR.o.call hI hB hK);clear hI hB hK)
          | (go_at_call 135;refine(edgeS_hand _ g _ _ _ _ en none 0 [] _ FR.o.st FR.o.lo (FR.o.fr FR0.o) (Kd.C_nil _ _) (Nat.le_refl _) (by simp) (by first|omega| (simp;omega))).mono ?_;rintro e w7 ⟨rfl,hI,hB,hK⟩;replace FR:=q_ (FR.o.call hI hB hK);clear hI hB hK))
              go_roundg (((x.f3+1)-j).toNat)
              case measure=>omega
              case rel=>
                have hn3:=HNX.o;have hb3:=HBN.o.loop 5 a z;rw[iP (by omega)]at hn3;unfold joinN at hn3;rw[iP (by omega)]at hn3;exact⟨j+1,_,_,_,_,rfl,rfl,by go_num,by omega,by omega,by omega,⟨hn3⟩,⟨(hb3).le (by omega)⟩,FR⟩
            · have d2:(j≥x.f3)=True:=eq_true (by omega)
              have d3:decide (j≥x.f3)=true:=by simp[d2]
              have d4:decide (f<0)=false:=decide_eq_false hf0_;have hb3:=HBN.o.loop 5 a z;have hb4:=hb3.1;have hb5:=hb3.2.1;have hb6:=hb3.2.2;clear hb3
              go_wp2_with(first
          | (go_at_call 147;(with_reducible refine(loopS_hand _ g _ _ _ _ _ en _ FR.o.st FR.o.lo (FR.o.fr FR0.o) (by omega) (by omega)).mono ?_);rintro e w7 ⟨rfl,hI,hB,hK⟩;replace FR:=q_ (FR.o.call hI hB hK);clear hI hB hK)
          | (go_at_call 135;refine(edgeS_hand _ g _ _ _ _ en none 0 [] _ FR.o.st FR.o.lo (FR.o.fr FR0.o) (Kd.C_nil _ _) (Nat.le_refl _) (by simp) (by first|omega| (simp;omega))).mono ?_;rintro e w7 ⟨rfl,hI,hB,hK⟩;replace FR:=q_ (FR.o.call hI hB hK);clear hI hB hK))
              go_roundg (((x.f3+1)-j).toNat)
              case measure=>omega
              case rel=>
                have hn3:=HNX.o;have hb3:=HBN.o.loop 5 a z;rw[iP (by omega)]at hn3;unfold joinN at hn3;rw[iN (by omega)]at hn3;exact⟨j+1,_,_,_,_,rfl,rfl,by go_num,by omega,by omega,by omega,⟨hn3⟩,⟨(hb3.edge _ _ _).le (by omega)⟩,FR⟩
          · by_cases hf0_:f<0
            · have d2:(j≥x.f3)=False:=eq_false (by omega)
              have d3:decide (j≥x.f3)=false:=by simp[d2]
              have d4:decide (f<0)=true:=decide_eq_true hf0_
              go_wp2_with(first
          | (go_at_call 147;(with_reducible refine(loopS_hand _ g _ _ _ _ _ en _ FR.o.st FR.o.lo (FR.o.fr FR0.o) (by omega) (by omega)).mono ?_);rintro e w7 ⟨rfl,hI,hB,hK⟩;replace FR:=q_ (FR.o.call hI hB hK);clear hI hB hK)
          | (go_at_call 135;refine(edgeS_hand _ g _ _ _ _ en none 0 [] _ FR.o.st FR.o.lo (FR.o.fr FR0.o) (Kd.C_nil _ _) (Nat.le_refl _) (by simp) (by first|omega| (simp;omega))).mono ?_;rintro e w7 ⟨rfl,hI,hB,hK⟩;replace FR:=q_ (FR.o.call hI hB hK);clear hI hB hK))
              go_roundg (((x.f3+1)-j).toNat)
              case measure=>omega
              case rel=>
                have hn3:=HNX.o;have hb3:=HBN.o;rw[iN (by omega)]at hn3;unfold joinN at hn3;rw[iP (by omega)]at hn3;exact⟨j+1,_,_,_,_,rfl,rfl,by go_num,by omega,by omega,by omega,⟨hn3⟩,⟨(hb3).le (by omega)⟩,FR⟩
            · have d2:(j≥x.f3)=False:=eq_false (by omega)
              have d3:decide (j≥x.f3)=false:=by simp[d2]
              have d4:decide (f<0)=false:=decide_eq_false hf0_
              go_wp2_with(first
          | (go_at_call 147;(with_reducible refine(loopS_hand _ g _ _ _ _ _ en _ FR.o.st FR.o.lo (FR.o.fr FR0.o) (by omega) (by omega)).mono ?_);rintro e w7 ⟨rfl,hI,hB,hK⟩;replace FR:=q_ (FR.o.call hI hB hK);clear hI hB hK)
          | (go_at_call 135;refine(edgeS_hand _ g _ _ _ _ en none 0 [] _ FR.o.st FR.o.lo (FR.o.fr FR0.o) (Kd.C_nil _ _) (Nat.le_refl _) (by simp) (by first|omega| (simp;omega))).mono ?_;rintro e w7 ⟨rfl,hI,hB,hK⟩;replace FR:=q_ (FR.o.call hI hB hK);clear hI hB hK))
              go_roundg (((x.f3+1)-j).toNat)
              case measure=>omega
              case rel=>
                have hn3:=HNX.o;have hb3:=HBN.o;rw[iN (by omega)]at hn3;unfold joinN at hn3;rw[iN (by omega)]at hn3;exact⟨j+1,_,_,_,_,rfl,rfl,by go_num,by omega,by omega,by omega,⟨hn3⟩,⟨(hb3.edge _ _ _).le (by omega)⟩,FR⟩
        · have ef:=hf
          have hr:=(timesL_full (P:=P) (mn:=x.f3) (op:=5) (m:=((x.f3+1)-j).toNat) (i:=j) (f:=f) (t:=t) hf).symm.trans HR.o;subst hr;clear hf HR
          go_wp2_with(go_at_call 144;(with_reducible refine(fullS_hand _ g _ _ en _ FR.o.st).mono ?_);rintro e w7 ⟨rfl,rfl⟩;rw[ef])
          all_goals(go_ret2;exact⟨tup_ (by omega) (by omega),FR.o.fin HW.o⟩)
      · have d1:decide (j<(x.f3+1))=false:=decide_eq_false hlt
        have hr:=HR.o;rw[show((x.f3+1)-j).toNat=0 by omega,timesL_done]at hr;subst hr;clear HR;go_wp2
        all_goals(go_ret2;exact⟨tup_ (by omega) (by omega),FR.o.fin HW.o⟩)
  · have em : decide (x.f4<0)=false:=decide_eq_false cm
    have eM:M=x.f4:=by rw[hM];unfold manyS;rw[iN cm]
    have eO:O=7:=by rw[hO];unfold loopOp;rw[iN cm]
    clear hM hO;subst eM eO;clear cm;go_enter Try.func146,Try.ntmps146
    go_wp2_with(first
     | ((with_reducible refine gate_dst (N:=4) rfl ?_);clear T0;refine bx_ 4 #[.slice A l.length c] 67 ?_;intro g1 hg w1 hbox hb;have BK1:=q_ hbox;have HW:=q_ hb;have G1:=q_ (Nat.le_of_eq hg.symm);clear hb hbox hg)
     | ((with_reducible refine gate_dst (N:=5) rfl ?_);clear T1;refine bx_ 5 #[.int .i64 x.f0, .slice A1 x.f1.length c1, .slice (some ad2) x.f2.length c2, .int .i64 x.f3, .int .i64 x.f4] 196 ?_;intro g2 hg w2 hbox hb;have BK2:=q_ hbox;have G2:=ge_ hg HW;replace BK1:=lb_ BK1 hb;replace HW:=sb_ HW hb;have FR:=q_ (FrB.start HI.o HB0.o HW.o);have FR0:=q_ (okF.free HF.o HW.o);clear hb hbox hg;obtain⟨hy0,hy1,hy2,hy3,hy4,hf0,hf1,hf2,hf3,hf4⟩:=d5_ BK2))
    clear hy0 hy1 hy2 hy3 hy4 hf0 hf1 hf2 hf3 hf4
    go_loopg [8,9,11] (32) (fun gg v8 v9 v11 wr=>∃(j f t n1:Int) (es1:List S116),v8= .int .i64 f∧v9= .int .i64 t∧v11= .int .i64 j∧0≤j∧j≤x.f4∧(x.f4-j).toNat<gg∧J0 (timesL P x.f3 7 (x.f4-j).toNat j (f,t,(n1,es1))=R)∧J0 (Bn (C+8) (n1,es1))∧J0 (FrB 186 w0 w2 wr (okF ok w w2) g n1 es1 en))
    case atStart=>exact⟨0, -1, -1,n,es,rfl,rfl,rfl,by omega,by omega,by omega,⟨by rw[Int.sub_zero];exact HR.o⟩,HN,FR⟩
    case round =>
      clear FR HN HR;obtain⟨j,f,t,n1,es1,rfl,rfl,rfl,hj0,hj1,hgg,HR,HN,FR⟩:=hrel;obtain⟨hy0,hy1,hy2,hy3,hy4,hf0,hf1,hf2,hf3,hf4⟩:=d5_ (q_ (FR.o.blk BK2.o G2.o HGW.o));by_cases hlt:j<x.f4
      · have d1 :decide (j<x.f4)=true:=decide_eq_true hlt
        rcases hf:fullB n1 es1 with _| _
        · have ef:=hf
          have hs:=Bn.small HN.o.1 (show fullN (n1,es1)=false from hf);have hbn:=(HBP.o 0 (n1,es1) hs).le (show max 0 C≤C by omega);obtain⟨⟨a,z,n2,es2⟩,hq⟩:∃q,q=P (n1,es1):=⟨_,rfl⟩;have hnx:=(timesL_next (P:=P) (mn:=x.f3) (op:=7) (m:=(x.f4-(j+1)).toNat) (i:=j) (f:=f) (t:=t) hf).symm.trans (show timesL P x.f3 7 ((x.f4-(j+1)).toNat+1) j (f,t,(n1,es1))=R by rw[show(x.f4-(j+1)).toNat+1=(x.f4-j).toNat by omega];exact HR.o);rw[←hq]at hbn hnx;have HNX:=q_ hnx;have HQ:=q_ hq;have HBN:=q_ hbn;have hs2:=HBN.o.1;have hs3:=HBN.o.2.1;have hs4:=HBN.o.2.2;have hcc:=HC.o;dsimp only at hs2 hs3 hs4;have HS1:=q_ (hs.le (show 0≤60000 by omega));clear hf hs hbn hq hnx HR HN
          go_wp2_with(go_at_call 144;(with_reducible refine(fullS_hand _ g _ _ en _ FR.o.st).mono ?_);rintro e w7 ⟨rfl,rfl⟩;rw[ef])
          clear ef hy0 hy1 hy2 hy3 hy4 hf0 hf1 hf2 hf3 hf4 d1;replace FR:=q_ FR.o.drew;refine start_ (n:=12) (S:=fun w'=>w'.cell? ⟨g1,0,none⟩=some (.slice A l.length c)∧w'.cell? ⟨g2,2,none⟩=some (.slice (some ad2) x.f2.length c2)∧w'.cell? ad2=some (.int .i64 i)) (ds:=[]) (bb 12 0) (by kernel_rfl) rfl rfl ⟨(blk_cell (FR.o.blk BK1.o G1.o HGW.o) 0).trans rfl,(blk_cell (FR.o.blk BK2.o G2.o HGW.o) 2).trans rfl,mv_ FR.o.lo HK0.o⟩ (fun hS=>?_);generalize World.drew _=wd at FR hS ⊢;refine pk_ 0 34 1 ?_;refine pk_ 2 36 5 ?_;refine tk_ 1 35 7 hS ?_;refine tk_ 3 37 15 hS ?_;refine pk_ 4 38 31 ?_;refine tk_ 5 39 63 hS ?_;refine one_ (i:=6) (N:=some 40) (bb 12 127) rfl rfl (by kernel_rfl) (by decide) (fun K hK=>?_);refine gs_ Try.func134 #[.pointer (some ⟨g,0,none⟩), .agg #[.slice A l.length c], .int .i64 i] ?_;(with_reducible refine(HP.out.at HQ.o HS1.o FR.o.st FR.o.lo (FR.o.fr FR0.o)).mono ?_);rintro e w7 ⟨rfl,hI,hB,hK2⟩;refine⟨_,rfl,?_⟩;replace FR:=q_ (FR.o.call hI hB hK2);clear hI hB hK2;refine hK.out _ _ ⟨(blk_cell (FR.o.blk BK1.o G1.o HGW.o) 0).trans rfl,(blk_cell (FR.o.blk BK2.o G2.o HGW.o) 2).trans rfl,mv_ FR.o.lo HK0.o⟩ (fun hS=>?_);clear hK K;refine no_ (some 40) ?_;refine pk_ 7 33 255 ?_;refine pk_ 8 41 511 ?_;refine pk_ 9 42 1023 ?_;refine pk_ 10 12 2047 ?_;refine pk_ 11 13 4095 ?_;refine done_ (by kernel_rfl) ?_;clear hS;obtain⟨hy0,hy1,hy2,hy3,hy4,hf0,hf1,hf2,hf3,hf4⟩:=d5_ (q_ (FR.o.blk BK2.o G2.o HGW.o));by_cases hge:j≥x.f3
          · by_cases hf0_:f<0
            · have d2:(j≥x.f3)=True:=eq_true (by omega)
              have d3:decide (j≥x.f3)=true:=by simp[d2]
              have d4:decide (f<0)=true:=decide_eq_true hf0_;have hb3:=HBN.o.loop 7 a z;have hb4:=hb3.1;have hb5:=hb3.2.1;have hb6:=hb3.2.2;clear hb3
              go_wp2_with(first
          | (go_at_call 147;(with_reducible refine(loopS_hand _ g _ _ _ _ _ en _ FR.o.st FR.o.lo (FR.o.fr FR0.o) (by omega) (by omega)).mono ?_);rintro e w7 ⟨rfl,hI,hB,hK⟩;replace FR:=q_ (FR.o.call hI hB hK);clear hI hB hK)
          | (go_at_call 135;refine(edgeS_hand _ g _ _ _ _ en none 0 [] _ FR.o.st FR.o.lo (FR.o.fr FR0.o) (Kd.C_nil _ _) (Nat.le_refl _) (by simp) (by first|omega| (simp;omega))).mono ?_;rintro e w7 ⟨rfl,hI,hB,hK⟩;replace FR:=q_ (FR.o.call hI hB hK);clear hI hB hK))
              go_roundg ((x.f4-j).toNat)
              case measure=>omega
              case rel=>
                have hn3:=HNX.o;have hb3:=HBN.o.loop 7 a z;rw[iP (by omega)]at hn3;unfold joinN at hn3;rw[iP (by omega)]at hn3;exact⟨j+1,_,_,_,_,rfl,rfl,by go_num,by omega,by omega,by omega,⟨hn3⟩,⟨(hb3).le (by omega)⟩,FR⟩
            · have d2:(j≥x.f3)=True:=eq_true (by omega)
              have d3:decide (j≥x.f3)=true:=by simp[d2]
              have d4:decide (f<0)=false:=decide_eq_false hf0_;have hb3:=HBN.o.loop 7 a z;have hb4:=hb3.1;have hb5:=hb3.2.1;have hb6:=hb3.2.2;clear hb3
              go_wp2_with(first
          | (go_at_call 147;(with_reducible refine(loopS_hand _ g _ _ _ _ _ en _ FR.o.st FR.o.lo (FR.o.fr FR0.o) (by omega) (by omega)).mono ?_);rintro e w7 ⟨rfl,hI,hB,hK⟩;replace FR:=q_ (FR.o.call hI hB hK);clear hI hB hK)
          | (go_at_call 135;refine(edgeS_hand _ g _ _ _ _ en none 0 [] _ FR.o.st FR.o.lo (FR.o.fr FR0.o) (Kd.C_nil _ _) (Nat.le_refl _) (by simp) (by first|omega| (simp;omega))).mono ?_;rintro e w7 ⟨rfl,hI,hB,hK⟩;replace FR:=q_ (FR.o.call hI hB hK);clear hI hB hK))
              go_roundg ((x.f4-j).toNat)
              case measure=>omega
              case rel=>
                have hn3:=HNX.o;have hb3:=HBN.o.loop 7 a z;rw[iP (by omega)]at hn3;unfold joinN at hn3;rw[iN (by omega)]at hn3;exact⟨j+1,_,_,_,_,rfl,rfl,by go_num,by omega,by omega,by omega,⟨hn3⟩,⟨(hb3.edge _ _ _).le (by omega)⟩,FR⟩
          · by_cases hf0_:f<0
            · have d2:(j≥x.f3)=False:=eq_false (by omega)
              have d3:decide (j≥x.f3)=false:=by simp[d2]
              have d4:decide (f<0)=true:=decide_eq_true hf0_
              go_wp2_with(first
          | (go_at_call 147;(with_reducible refine(loopS_hand _ g _ _ _ _ _ en _ FR.o.st FR.o.lo (FR.o.fr FR0.o) (by omega) (by omega)).mono ?_);rintro e w7 ⟨rfl,hI,hB,hK⟩;replace FR:=q_ (FR.o.call hI hB hK);clear hI hB hK)
          | (go_at_call 135;refine(edgeS_hand _ g _ _ _ _ en none 0 [] _ FR.o.st FR.o.lo (FR.o.fr FR0.o) (Kd.C_nil _ _) (Nat.le_refl _) (by simp) (by first|omega| (simp;omega))).mono ?_;rintro e w7 ⟨rfl,hI,hB,hK⟩;replace FR:=q_ (FR.o.call hI hB hK);clear hI hB hK))
              go_roundg ((x.f4-j).toNat)
              case measure=>omega
              case rel=>
                have hn3:=HNX.o;have hb3:=HBN.o;rw[iN (by omega)]at hn3;unfold joinN at hn3;rw[iP (by omega)]at hn3;exact⟨j+1,_,_,_,_,rfl,rfl,by go_num,by omega,by omega,by omega,⟨hn3⟩,⟨(hb3).le (by omega)⟩,FR⟩
            · have d2:(j≥x.f3)=False:=eq_false (by omega)
              have d3:decide (j≥x.f3)=false:=by simp[d2]
              have d4:decide (f<0)=false:=decide_eq_false hf0_
              go_wp2_with(first
          | (go_at_call 147;(with_reducible refine(loopS_hand _ g _ _ _ _ _ en _ FR.o.st FR.o.lo (FR.o.fr FR0.o) (by omega) (by omega)).mono ?_);rintro e w7 ⟨rfl,hI,hB,hK⟩;replace FR:=q_ (FR.o.call hI hB hK);clear hI hB hK)
          | (go_at_call 135;refine(edgeS_hand _ g _ _ _ _ en none 0 [] _ FR.o.st FR.o.lo (FR.o.fr FR0.o) (Kd.C_nil _ _) (Nat.le_refl _) (by simp) (by first|omega| (simp;omega))).mono ?_;rintro e w7 ⟨rfl,hI,hB,hK⟩;replace FR:=q_ (FR.o.call hI hB hK);clear hI hB hK))
              go_roundg ((x.f4-j).toNat)
              case measure=>omega
              case rel=>
                have hn3:=HNX.o;have hb3:=HBN.o;rw[iN (by omega)]at hn3;unfold joinN at hn3;rw[iN (by omega)]at hn3;exact⟨j+1,_,_,_,_,rfl,rfl,by go_num,by omega,by omega,by omega,⟨hn3⟩,⟨(hb3.edge _ _ _).le (by omega)⟩,FR⟩
        · have ef:=hf
          have hr:=(timesL_full (P:=P) (mn:=x.f3) (op:=7) (m:=(x.f4-j).toNat) (i:=j) (f:=f) (t:=t) hf).symm.trans HR.o;subst hr;clear hf HR
          go_wp2_with(go_at_call 144;(with_reducible refine(fullS_hand _ g _ _ en _ FR.o.st).mono ?_);rintro e w7 ⟨rfl,rfl⟩;rw[ef])
          all_goals(go_ret2;exact⟨tup_ (by omega) (by omega),FR.o.fin HW.o⟩)
      · have d1:decide (j<x.f4)=false:=decide_eq_false hlt
        have hr:=HR.o;rw[show(x.f4-j).toNat=0 by omega,timesL_done]at hr;subst hr;clear HR;go_wp2
        all_goals(go_ret2;exact⟨tup_ (by omega) (by omega),FR.o.fin HW.o⟩)
end Go.Proofs.Ytlecpdpdcocibaa.P
