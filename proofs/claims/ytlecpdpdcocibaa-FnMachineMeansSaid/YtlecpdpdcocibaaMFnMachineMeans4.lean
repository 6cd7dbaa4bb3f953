/- The law FnMachineMeans holds for every call: part 5 of 6 of the proof (walks of functions, and what they answer). Conditions: none beyond what the given row says. -/
import Derived.Test.YtlecpdpdcocibaaMFnMachineMeans3
import Derived.Test.YtlecpdpdcocibaaMFnMachineMeans2
import Derived.Test.YtlecpdpdcocibaaMFnMachineMeans0
import Derived.Test.YtlecpdpdcocibaaMFnMachineMeans1
import Derived.Shelf.Abstract
import Derived.Lib.Hide
import Derived.ChangeSlices
import Derived.ChangeArms
set_option maxHeartbeats 16000000
set_option maxRecDepth 100000
namespace Go.Proofs.Ytlecpdpdcocibaa.P
open Go.RowKit Go.Proofs.YtlecpdpdcocibaaW.PrintWords Go.Proofs.YtlecpdpdcocibaaW.PrintLast Go.Proofs.YtlecpdpdcocibaaEv
set_option linter.unusedVariables false
set_option linter.unusedSimpArgs false
def counts(row:List Int)(states i:Nat):List Int:=(List.range states).map fun s:Nat=>(((row.take i).count (s:Int):Nat):Int)
theorem counts_length(row:List Int)(states i:Nat):(counts row states i).length=states:=by simp[counts]
theorem rd_counts(row:List Int)(states i:Nat)(x:Int)(h0:0≤x)(h1:x<(states:Int)):rd (counts row states i) x=(((row.take i).count x:Nat):Int):=by
 obtain⟨t,rfl⟩:∃t:Nat,x=(t:Int):=⟨x.toNat,by omega⟩;have ht:t<states:=by omega
 simp[rd,counts,ht]
theorem counts_step(row:List Int)(states i:Nat)(hi:i<row.length)(h0:0≤rd row (i:Int))(h1:rd row (i:Int)<(states:Int)):(counts row states i).set (rd row (i:Int)).toNat (rd (counts row states i) (rd row (i:Int))+1)=counts row states (i+1):=by
 have hr:rd row (i:Int)=row[i]:=by simp[rd,hi]
 rw[rd_counts row states i _ h0 h1];have htk:row.take (i+1)=row.take i++ [row[i]]:=List.take_succ_eq_append_getElem hi;rw[hr]at h0 h1 ⊢;apply List.ext_getElem
 ·simp[counts]
 ·intro j h2 h3
  have hj:j<states:=by simpa[counts]using h3
  simp only[counts,htk,List.getElem_set,List.getElem_map,List.getElem_range,List.count_append];by_cases e:row[i]=(j:Int)
  ·rw[iP (by omega),e]
   simp
  ·rw[iN (by omega),show[row[i]].count (j:Int)=0 from List.count_eq_zero_of_not_mem (by simpa using fun h=>e h.symm)]
   rfl
theorem spec_l10Default_ev(row:List Int)(states:Nat)(hs:1≤states∧states≤1000)(hl:row.length≤256)(h:∀x∈row,0≤x∧x<(states:Int)):Ev (fun k=>spec_l10Default.f k row (states:Int)) (bestR row states):=by
  unfold spec_l10Default.f;simp only[ev_ite];rw[iP (by omega),iP (by omega),Int.toNat_natCast];have hz:List.replicate states (0:Int)=counts row states 0:=by
   apply List.ext_getElem
   ·simp[counts]
   ·intro j h2 h3
    simp[counts]
  rw[hz];refine ev_loop row.length (fun k i=>spec_l10Default.l0 k row (states:Int) (counts row states i) (i:Nat)) (fun _=>bestR row states) ?_ ?_ 0 (by omega)
  · rw [ev_succ]
    simp only[spec_l10Default.l0];simp only[Int.lt_irrefl,if_false];have hc:∀t:Nat,t<states→rd (counts row states row.length) (t:Int)=(cntR row t:Int):=fun t ht=>by
     rw[rd_counts row states _ _ (by omega) (by omega),List.take_length];rfl
    refine ev_loop states (fun k i=>spec_l10Default.l1 k (states:Int) (counts row states row.length) (bestUp (cntR row) i:Nat) (i:Nat)) (fun _=>bestR row states) ?_ ?_ 0 (by omega)
    ·rw[ev_succ]
     simp only[spec_l10Default.l1];simp only[Int.lt_irrefl,if_false];exact ev_some.2 rfl
    · intro i hi ih
      have hb:bestUp (cntR row) i<states:=by
        cases i with
        |zero=>simp[bestUp];omega
        |succ i=>have:=bestUp_lt (cntR row) (i+1) (by omega);omega
      rw[ev_succ];simp only[spec_l10Default.l1,ev_ite,counts_length];rw[iP (by omega),iP (by omega),iP (by omega),iP (by omega),iP (by omega),wrap_succ hi (by omega),hc i hi,hc _ hb];simp only[bestUp]at ih;by_cases e:cntR row (bestUp (cntR row) i)<cntR row i
      · rw[iP e]at ih
        rw[iP (by omega)];exact ih
      · rw[iN e]at ih
        rw[iN (by omega)];exact ih
  ·intro i hi ih
   have hm:rd row (i:Int)∈row:=rd_mem (by omega) (by omega);obtain⟨h0,h1⟩:=h _ hm;rw[ev_succ];simp only[spec_l10Default.l0,ev_ite,counts_length];have hle:(row.take i).count (rd row (i:Int))≤256:=Nat.le_trans List.count_le_length (by simp;omega);have hw:wrap64 (rd (counts row states i) (rd row (i:Int))+1)=rd (counts row states i) (rd row (i:Int))+1:=by
    rw[rd_counts row states i _ h0 h1];exact wrap_id (by omega) (by omega)
   rw[iP (by omega),iP (by omega),iP h0,iP h1,wrap_succ hi (by omega),hw,counts_step row states i hi h0 h1];exact ih
def blkS(l0:List Int):Int:=if l0.length=256 then(match blk l0 0 with|some m=>m|none=> -1)else -1
theorem drop_rd(l:List Int)(i:Nat)(h:i<l.length):l.drop i=rd l (i:Int) :: l.drop (i+1):=by
 rw[drop_cons l 0 i h];simp[rd]
theorem spec_l7Blocks_ev(l0:List Int):Ev (fun k=>spec_l7Blocks.f k l0) (blkS l0):=by
  unfold spec_l7Blocks.f blkS;simp only[ev_ite];by_cases h256:l0.length=256;rotate_left
  ·rw[iN (by omega),iN h256]
   exact ev_some.2 rfl
  rw[iP (by omega),iP h256];have key:=down 256 (fun i=>∀n:Int,0≤n→n≤(i:Int)→Ev (fun k=>spec_l7Blocks.l0 k l0 n (i:Nat)) (match blk (l0.drop i) n with|some m=>m|none=> -1)) ?_ ?_ 0 (by omega) 0 (by omega) (by omega)
  ·simpa using key
  ·intro n h0 h1
   rw[ev_succ];simp only[spec_l7Blocks.l0];rw[show l0.drop 256= [] by rw[List.drop_eq_nil_iff];omega];simp[blk,ev_some]
  · intro i hi ih n h0 h1
    rw[ev_succ,drop_rd l0 i (by omega)];simp only[spec_l7Blocks.l0,ev_ite];rw[iP (by omega),iP (by omega),iP (by omega),spec_l1In_eq,ev_bind_some];simp only[ev_ite,decide_eq_true_eq,blk];by_cases hx:0≤rd l0 (i:Int)∧rd l0 (i:Int)≤n
    · rw[iP hx,iP hx,wrap_succ hi (by omega),wrap_id (by omega) (by omega)]
      refine ev_congr (ih _ ?_ ?_) ?_
      ·unfold mx;split<;>omega
      ·unfold mx;split<;>omega
      · have:mx n (rd l0 (i:Int)+1)=max n (rd l0 (i:Int)+1):=by unfold mx;split<;>omega
        rw[this]
    ·rw[iN hx,iN hx]
     exact ev_some.2 rfl
end Go.Proofs.Ytlecpdpdcocibaa.P
namespace Go.Proofs.Ytlecpdpdcocibaa.P
open Go.RowKit Go.Shelf Go.Proofs.YtlecpdpdcocibaaW.PrintWords Go.Proofs.YtlecpdpdcocibaaW.PrintLast Go.Proofs.YtlecpdpdcocibaaW.PrintMore Go.Proofs.YtlecpdpdcocibaaEv
set_option linter.unusedVariables false
set_option linter.unusedSimpArgs false
theorem infoCBlockS_:(Try.prog.info? 79).map (fun i=>(i.zero,i.size,i.bytes))=some (some (.agg #[(.int .i64 0),(.slice none 0 0),(.int .i64 0)]),3,40):=by kernel_rfl
theorem GenCodeS_none(A0 A1 A2:Option Addr)(c0 c1 c2:Nat)(l0:List Int)(l1:List (List Int))(l2:List Int)(k:Nat)(hk:spec_DfaOk.f k l0 l1 l2=some false)(w:World)(hr0:Kd.C (Kd.int .i64) w A0 l0.length l0)(hc0:l0.length≤c0)(hr1:Kd.C (Kd.slice 2 (Kd.int .i64)) w A1 l1.length l1)(hc1:l1.length≤c1)(hr2:Kd.C (Kd.int .i64) w A2 l2.length l2)(hc2:l2.length≤c2):
   Calls Try.prog 9 #[.agg #[.slice A0 l0.length c0, .slice A1 l1.length c1, .slice A2 l2.length c2]] w fun e w'=>e= .returned (.tuple #[.agg #[.slice none 0 0], .bool false])∧Below w.heap.size w w':=by
 have HK:=q_ hk;have HR0:=q_ hr0;have HC0:=q_ hc0;have HR1:=q_ hr1;have HC1:=q_ hc1;have HR2:=q_ hr2;have HC2:=q_ hc2;have HB:=q_ (Below.refl w.heap.size w);have T0:J0 True:=⟨trivial⟩;have T1:J0 True:=⟨trivial⟩;have T2:J0 True:=⟨trivial⟩;clear hk hr0 hc0 hr1 hc1 hr2 hc2;go_enter Try.func9,Try.ntmps9;go_upto_region 2 with(first
  | ((with_reducible refine gate_dst (N:=1) rfl ?_);clear T0;refine bx_ 1 #[.slice A0 l0.length c0, .slice A1 l1.length c1, .slice A2 l2.length c2] 32 ?_;intro g1 hg w1 hbox hb;have BK1:=q_ hbox;have G1:=ge_ hg HB;replace HB:=sb_ HB hb;clear hb hbox hg)
  | ((with_reducible refine gate_dst (N:=2) rfl ?_);clear T1;refine bx_ 2 #[.slice none 0 0] 29 ?_;intro gr hg w2 hbox hb;have BR:=q_ hbox;have GR:=ge_ hg HB;have NB:=nl_ hg BK1;replace BK1:=lb_ BK1 hb;replace HB:=sb_ HB hb;clear hb hbox hg)
  | ((with_reducible refine gate_dst (N:=4) rfl ?_);clear T2;refine bx_ 4 #[.slice none 0 0] 29 ?_;intro g4 hg w4 hbox hb;have B4:=q_ hbox;have G4:=ge_ hg HB;have N1:=nl_ hg BK1;have NR:=nl_ hg BR;replace BK1:=lb_ BK1 hb;replace BR:=lb_ BR hb;replace HB:=sb_ HB hb;clear hb hbox hg;obtain⟨hy0,hyf⟩:=d1_ B4))
 have B4b:J0 ((w4.setCell ⟨g4,0,none⟩ (.slice none 0 0)).heap[g4]? =some (.cells #[.slice none 0 0] 29)):=⟨blk_put B4.o 0 _ rfl⟩;have BK1b:J0 ((w4.setCell ⟨g4,0,none⟩ (.slice none 0 0)).heap[g1]? =some (.cells #[.slice A0 l0.length c0, .slice A1 l1.length c1, .slice A2 l2.length c2] 32)):=⟨blk_far BK1.o N1.o _⟩;have BRb:J0 ((w4.setCell ⟨g4,0,none⟩ (.slice none 0 0)).heap[gr]? =some (.cells #[.slice none 0 0] 29)):=⟨blk_far BR.o NR.o _⟩;replace HB:=q_ (below_set (v:= .slice none 0 0) (j:=0) HB.o G4.o);clear B4 BK1 BR hy0 hyf;generalize w4.setCell ⟨g4,0,none⟩ (.slice none 0 0)=w5 at *;have B4:=B4b;have BK1:=BK1b;have BR:=BRb;clear B4b BK1b BRb;obtain⟨hz0,hz1,hz2,hf0,hf1,hf2⟩:=d3_ BK1
 go_wp2_with(go_at_call 40;(with_reducible refine(spec_DfaOk.calls k _ _ _ _ _ _ _ _ _ _ _ (Kd.C_below HR0.o (be_ HB.o)) HC0.o (Kd.C_below HR1.o (be_ HB.o)) HC1.o (Kd.C_below HR2.o (be_ HB.o)) HC2.o HK.o).mono ?_);rintro e w3 ⟨rfl,hb⟩;replace BR:=lb_ BR hb;replace B4:=lb_ B4 hb;replace HB:=sb_ HB hb;clear hb hz0 hz1 hz2 hf0 hf1 hf2;obtain⟨hrz0,hrf0⟩:=d1_ BR;obtain⟨hy0,hyf⟩:=d1_ B4)
 refine bodyPost_ret (results_ct rfl _ _ gr 29 #[.slice none 0 0] (0,0) _ rfl (blk_put BR.o 0 _ rfl) Try.underlying29 rfl (by kernel_rfl)) rfl ?_;exact⟨rfl,below_set HB.o GR.o⟩
theorem GenCodeS_some(A0 A1 A2:Option Addr)(c0 c1 c2:Nat)(l0:List Int)(l1:List (List Int))(l2:List Int)(k:Nat)(hk:spec_DfaOk.f k l0 l1 l2=some true)(hyes:dfaB l0 l1 l2=true)(hdef:∀s,s<l1.length→spec_l10Default.f k (rowG l0 l1 (s:Int) 256) l1.length=some (bestR (rowG l0 l1 (s:Int) 256) l1.length))(w:World)(hr0:Kd.C (Kd.int .i64) w A0 l0.length l0)(hc0:l0.length≤c0)(hr1:Kd.C (Kd.slice 2 (Kd.int .i64)) w A1 l1.length l1)(hc1:l1.length≤c1)(hr2:Kd.C (Kd.int .i64) w A2 l2.length l2)(hc2:l2.length≤c2):
    Calls Try.prog 9 #[.agg #[.slice A0 l0.length c0, .slice A1 l1.length c1, .slice A2 l2.length c2]] w fun e w'=>∃v,e= .returned (.tuple #[.agg #[v], .bool true])∧Kd.S k79 79 w' w.heap.size (fun _=>True) v (codeG l0 l1 l2 l1.length)∧Below w.heap.size w w':=by
  obtain⟨m,hD⟩:=dfaB_true hyes;have HD:=q_ hD;have hrows:=hD.rows;obtain⟨ad0,rfl,_⟩:=Kd.at_int hr0 0 (by omega) (by have:=hD.bytes;omega);obtain⟨ad2,rfl,_⟩:=Kd.at_int hr2 0 (by omega) (by have:=hD.acc;omega);obtain⟨ad1,_,_,rfl,_⟩:=at_L1 hr1 0 (by omega) (by omega);have HK:=q_ hk;have HR0:=q_ hr0;have HC0:=q_ hc0;have HR1:=q_ hr1;have HC1:=q_ hc1;have HR2:=q_ hr2;have HC2:=q_ hc2;have HB:=q_ (Below.refl w.heap.size w);have HDF:=q_ hdef;have T0:J0 True:=⟨trivial⟩;have T1:J0 True:=⟨trivial⟩;have T2:J0 True:=⟨trivial⟩;clear hk hr0 hc0 hr1 hc1 hr2 hc2 hyes hD hdef;go_enter Try.func9,Try.ntmps9;go_upto_region 2 with(first
   | ((with_reducible refine gate_dst (N:=1) rfl ?_);clear T0;refine bx_ 1 #[.slice (some ad0) l0.length c0, .slice (some ad1) l1.length c1, .slice (some ad2) l2.length c2] 32 ?_;intro g1 hg w1 hbox hb;have BK1:=q_ hbox;have G1:=ge_ hg HB;replace HB:=sb_ HB hb;clear hb hbox hg)
   | ((with_reducible refine gate_dst (N:=2) rfl ?_);clear T1;refine bx_ 2 #[.slice none 0 0] 29 ?_;intro gr hg w2 hbox hb;have BR:=q_ hbox;have GR:=ge_ hg HB;have NB:=nl_ hg BK1;replace BK1:=lb_ BK1 hb;replace HB:=sb_ HB hb;clear hb hbox hg)
   | ((with_reducible refine gate_dst (N:=4) rfl ?_);clear T2;refine bx_ 4 #[.slice none 0 0] 29 ?_;intro g4 hg w4 hbox hb;have B4:=q_ hbox;have G4:=ge_ hg HB;have N1:=nl_ hg BK1;have NR:=nl_ hg BR;replace BK1:=lb_ BK1 hb;replace BR:=lb_ BR hb;replace HB:=sb_ HB hb;clear hb hbox hg;obtain⟨hy0,hyf⟩:=d1_ B4))
  have B4b:J0 ((w4.setCell ⟨g4,0,none⟩ (.slice none 0 0)).heap[g4]? =some (.cells #[.slice none 0 0] 29)):=⟨blk_put B4.o 0 _ rfl⟩;have BK1b:J0 ((w4.setCell ⟨g4,0,none⟩ (.slice none 0 0)).heap[g1]? =some (.cells #[.slice (some ad0) l0.length c0, .slice (some ad1) l1.length c1, .slice (some ad2) l2.length c2] 32)):=⟨blk_far BK1.o N1.o _⟩;have BRb:J0 ((w4.setCell ⟨g4,0,none⟩ (.slice none 0 0)).heap[gr]? =some (.cells #[.slice none 0 0] 29)):=⟨blk_far BR.o NR.o _⟩;replace HB:=q_ (below_set (v:= .slice none 0 0) (j:=0) HB.o G4.o);clear B4 BK1 BR hy0 hyf;generalize w4.setCell ⟨g4,0,none⟩ (.slice none 0 0)=w5 at *;have B4:=B4b;have BK1:=BK1b;have BR:=BRb;clear B4b BK1b BRb;obtain⟨hz0,hz1,hz2,hf0,hf1,hf2⟩:=d3_ BK1
  go_wp2_with(go_at_call 40;(with_reducible refine(spec_DfaOk.calls k _ _ _ _ _ _ _ _ _ _ _ (Kd.C_below HR0.o (be_ HB.o)) HC0.o (Kd.C_below HR1.o (be_ HB.o)) HC1.o (Kd.C_below HR2.o (be_ HB.o)) HC2.o HK.o).mono ?_);rintro e w3 ⟨rfl,hb⟩;replace BK1:=lb_ BK1 hb;replace BR:=lb_ BR hb;replace B4:=lb_ B4 hb;replace HB:=sb_ HB hb;clear hb hz0 hz1 hz2 hf0 hf1 hf2)
  go_loopg [5] l1.length (fun gg v5 wr=>∃(kk:Nat) (v8:Value),v5= .int .i64 kk∧kk≤l1.length∧l1.length-kk≤gg∧J0 (wr.heap[g4]? =some (.cells #[v8] 29))∧J0 (Kd.S k79 79 wr w.heap.size (fun _=>True) v8 (codeG l0 l1 l2 kk))∧J0 (wr.heap[g1]? =some (.cells #[.slice (some ad0) l0.length c0, .slice (some ad1) l1.length c1, .slice (some ad2) l2.length c2] 32))∧J0 (wr.heap[gr]? =some (.cells #[.slice none 0 0] 29))∧J0 (Below w.heap.size w wr))
  case atStart=>exact⟨0,_,rfl,by omega,by omega,B4,⟨Kd.S_nil _ _ _ _ _⟩,BK1,BR,HB⟩
  case round =>
    clear B4 BK1 BR HB;obtain⟨kk,v8,rfl,hkk,hgg,B4,HA,BK1,BR,HB⟩:=hrel;obtain⟨A8,c8,rfl⟩:=Kd.S_slice HA.o;obtain⟨hz0,hz1,hz2,hf0,hf1,hf2⟩:=d3_ BK1;by_cases hlt:kk<l1.length
    · have hltz : decide ((kk:Int)<(l1.length:Int))=true:=decide_eq_true (by omega)
      have hs0:(0:Int)≤(kk:Int):=by omega
      have hs1:(kk:Int)<(l1.length:Int):=by omega
      have HRNG:=q_ (HD.o.to_ _ hs0 hs1);have HDF1:=q_ (HDF.o kk hlt);generalize wr=wo at *;have HW:=q_ (Below.refl wo.heap.size wo);have TR:J0 True:=⟨trivial⟩
      go_wp2_with((with_reducible refine gate_dst (N:=23) rfl ?_);clear TR;refine Kd.R_lit (Kd.int .i64) _ 2 ?hg (N:=23) ?hd (xs:=([]:List Int)) (inner:=[]) (ok:=fun _=>True) (okp:=fun _=>True) ?hr ?hp (fun _ hk=>hk) trivial (Below.refl _ _) (Nat.le_refl _) (by simp) ?_;(case hd=>rfl);(case hg=>rfl);(case hr=>first| (go_simp;done)| (go_simp;rfl));(case hp=>exact(Reps.none _ _));intro v3 w3 ho hb hgg_ hnew_;clear hgg_ hnew_;have HO:=q_ (Kd.R_lower ho HW.o.size);replace HW:=sb_ HW hb;clear hb ho)
      go_loopg [6,7] 256 (fun gg v6 v7 wr=>∃b:Nat,v7= .int .i64 b∧b≤256∧256-b≤gg∧J0 (Kd.R (Kd.int .i64) 2 wr wo.heap.size (fun _=>True) v6 (rowG l0 l1 (kk:Int) b))∧J0 (Below wo.heap.size wo wr))
      case atStart=>exact⟨0,rfl,by omega,by omega,HO,HW⟩
      case round =>
        clear HO HW hz0 hz1 hz2 hf0 hf1 hf2;obtain⟨b,rfl,hb256,hgb,HO,HW⟩:=hrel;obtain⟨hz0,hz1,hz2,hf0,hf1,hf2⟩:=d3_ (q_ (blk_below BK1.o HW.o));by_cases hlb:b<256
        · have hltz:decide ((b:Int)<256)=true:=decide_eq_true (by omega)
          have hbz:(0:Int)≤(b:Int):=by omega
          have hbl:(b:Int)<(l0.length:Int):=by have:=HD.o.bytes;omega
          obtain⟨hq0,hq1⟩:=HD.o.at_ _ hs0 hs1 b hlb;have HBW:=q_ (below_step HB.o HW.o);obtain⟨adb,eb,hxb⟩:=Kd.at_int HR0.o (b:Int) hbz hbl;obtain⟨adk,Ar,cr,ek,hxk,hlk,hrk⟩:=at_L1 HR1.o (kk:Int) hs0 hs1;obtain⟨adr,er,hxr⟩:=Kd.at_int hrk (rd l0 (b:Int)) hq0 hq1;cases eb;cases ek;subst er;rw[Int.toNat_natCast]at hxb hxk;have p0:=eq_true hbz;have q0:=eq_true hbl;have p1:=eq_true hs0;have q1:=eq_true hs1;have p2:=eq_true hq0;have q2:=eq_true hq1;have hsc:=rowG_succ l0 l1 (kk:Int) b;have hln:=rowG_length l0 l1 (kk:Int) b;generalize rd (rd_L1 l1 (kk:Int)) (rd l0 (b:Int))=y at *;generalize rd l0 (b:Int)=bl at *;generalize rd_L1 l1 (kk:Int)=rw_ at *;have HSC:=q_ hsc;have HLN:=q_ hln;have HXb:=q_ hxb;have HXk:=q_ hxk;have HXr:=q_ hxr;obtain⟨A6,c6,rfl⟩:=Kd.R_slice HO.o;clear hsc hln hlk hrk hbz hbl hq0 hq1 hxb hxk hxr HBW
          go_wp2_with fail
          replace HO:=q_ (Kd.R_drew HO.o);have HWd:J0 (Below wo.heap.size wo wr.drew):=⟨below_drew1 HW.o⟩;have BK1w:=q_ (blk_below BK1.o HWd.o);have HBd:=q_ (below_step HB.o HWd.o);refine start_ (n:=16) (S:=fun w'=>w'.cell? ⟨g1,1,none⟩=some (.slice (some ad1) l1.length c1)∧(w'.cell? ⟨g1,0,none⟩=some (.slice (some ad0) l0.length c0)∧(w'.cell? (ad1.add kk)=some (.slice (some adr) rw_.length cr)∧(w'.cell? (ad0.add b)=some (.int .i64 bl)∧w'.cell? (adr.add bl.toNat)=some (.int .i64 y))))) (ds:=[]) (bb 16 0) (by kernel_rfl) rfl rfl ⟨(blk_cell BK1w.o 1).trans rfl,(blk_cell BK1w.o 0).trans rfl,mv_ HBd.o HXk.o,mv_ HBd.o HXb.o,mv_ HBd.o HXr.o⟩ (fun hS=>?_);generalize wr.drew=wd at BK1w HWd HBd HO hS ⊢;clear hz0 hz1 hz2 hf0 hf1 hf2 HW;refine pk_ 0 28 1 ?_;refine pk_ 1 29 3 ?_;refine tk_ 2 30 7 hS ?_;refine pk_ 3 31 15 ?_;refine pk_ 4 32 31 ?_;refine tk_ 5 33 63 hS ?_;refine pk_ 6 34 127 ?_;refine tk_ 7 35 255 hS ?_;refine pk_ 8 36 511 ?_;refine pk_ 9 37 1023 ?_;refine tk_ 10 38 2047 hS ?_;refine pk_ 11 39 4095 ?_;refine tk_ 12 40 8191 hS ?_;refine one_ (i:=13) (N:=some 41) (bb 16 16383) rfl rfl (by kernel_rfl) (by decide) (fun K hK=>?_);refine value_ (w1:=?_) (v:=?_) (by rfl) rfl ?_ ?_;rotate_left 2
          · go_simp
            constructor
            ·rfl
            ·rfl
          have hb:∀o,Below wd.heap.size wd (wd.alloc o):=fun o=>below_alloc (Below.refl _ _) o
          refine hK.out _ _ ⟨mv_ (hb _) hS.1,mv_ (hb _) hS.2.1,mv_ (hb _) hS.2.2.1,mv_ (hb _) hS.2.2.2.1,mv_ (hb _) hS.2.2.2.2⟩ (fun hS=>?_);clear hK K hb;refine no_ (some 41) ?_;refine one_ (i:=14) (N:=some 42) (bb 16 32767) rfl rfl (by kernel_rfl) (by decide) (fun K hK=>?_);refine Kd.R_append_step (Kd.int .i64) (w0:=wo) wo.heap.size (by rfl) (.tmp 28) (.tmp 41) 22 2 (.int .i64 0) 8 rfl Try.underlying22 info2 rfl (by decide) (by omega) (.slice A6 (rowG l0 l1 (kk:Int) b).length c6) (rowG l0 l1 (kk:Int) b) y [.int .i64 y] (fun _=>True) (fun _=>False) rfl rfl ?aP (fun _ hk=>hk.elim) ?aF ?aO ?aB ?aS ?aL ?_;(case aP=>exact rfl);(case aF=>exact(fun _ _=>trivial));(case aO=>exact HO.o);(case aB=>exact HWd.o);(case aS=>exact HWd.o.size);(case aL=>rw[HLN.o];omega);intro v9 w9 ho hb hg hat;have O2:=q_ ho;have HW:=q_ hb;have HBe:=below_step HB.o hb;have BK1e:=blk_below BK1.o hb;refine hK.out _ _ ⟨(blk_cell BK1e 1).trans rfl,(blk_cell BK1e 0).trans rfl,mv_ HBe HXk.o,mv_ HBe HXb.o,mv_ HBe HXr.o⟩ (fun hS=>?_);clear hK K HBe BK1e ho hb hg hat;refine no_ (some 42) ?_;refine pk_ 15 6 65535 ?_;refine done_ (by kernel_rfl) ?_;clear hS HO HWd HBd BK1w
          go_wp2_with fail
          go_roundg (256-(b+1))
          case measure=>omega
          case rel=>exact⟨b+1,by go_num,by omega,by omega,⟨by rw[HSC.o];exact O2.o⟩,HW⟩
        · have e256 :b=256:=by omega
          subst e256;have hltz:decide (((256:Nat):Int)<256)=false:=by decide
          clear hgb hb256 hlb;have hmo:=q_ (HD.o.most _ hs0 hs1);have hsc:codeG l0 l1 l2 (kk+1)=codeG l0 l1 l2 kk++ [⟨rd l2 (kk:Int),armsUp (bestR (rowG l0 l1 (kk:Int) 256) l1.length) (rowG l0 l1 (kk:Int) 256) 256,bestR (rowG l0 l1 (kk:Int) 256) l1.length⟩]:=codeG_succ l0 l1 l2 kk;have hcl:=codeG_length l0 l1 l2 kk;have hln:=rowG_length l0 l1 (kk:Int) 256;generalize rowG l0 l1 (kk:Int) 256=row at *;generalize bestR row l1.length=e at *;generalize hcu:codeG l0 l1 l2 (kk+1)=code2 at *;generalize codeG l0 l1 l2 kk=code at *;have HSC:=q_ hsc;have HCL:=q_ hcl;have HLN:=q_ hln;have HCU:=q_ hcu;clear hsc hcl hln hcu;obtain⟨A6,c6,rfl⟩:=Kd.R_slice HO.o;have hs2:(kk:Int)<(l2.length:Int):=by rw[HD.o.acc];exact hs1
          obtain⟨adx,e2,hx2⟩:=Kd.at_int HR2.o (kk:Int) hs0 hs2;cases e2;rw[Int.toNat_natCast]at hx2;have HX2:=q_ hx2;clear hx2;have p0:=eq_true hs0;have q0:=eq_true hs2
          go_wp2_with fail
          clear hz0 hz1 hz2 hf0 hf1 hf2;have HWd:J0 (Below wo.heap.size wo wr.drew):=⟨below_drew1 HW.o⟩;replace HO:=q_ (Kd.R_drew HO.o);have HBW:=q_ (below_step HB.o HWd.o);have BK1w:=q_ (blk_below BK1.o HWd.o);refine start_ (n:=13) (S:=fun w'=>w'.cell? ⟨g1,2,none⟩=some (.slice (some ad2) l2.length c2)∧(w'.cell? ⟨g1,1,none⟩=some (.slice (some ad1) l1.length c1)∧w'.cell? (ad2.add kk)=some (.int .i64 (rd l2 (kk:Int))))) (ds:=[12]) (bb 13 0) (by kernel_rfl) rfl rfl ⟨(blk_cell BK1w.o 2).trans rfl,(blk_cell BK1w.o 1).trans rfl,mv_ HBW.o HX2.o⟩ (fun hS=>?_);generalize wr.drew=wd at BK1w HBW HWd HO hS ⊢;clear HW;refine pk_ 0 43 1 ?_;refine tk_ 1 44 3 hS ?_;refine pk_ 2 45 7 ?_;refine pk_ 3 46 15 ?_;refine tk_ 4 47 31 hS ?_;refine pk_ 5 48 63 ?_;refine pk_ 6 49 127 ?_;refine tk_ 7 50 255 hS ?_;refine pk_ 8 51 511 ?_;clear BK1w HBW;refine join_ (σ:=Nat) 1 (bb 13 4095) (fun g8=>[(52, .int .i64 e),(53, .agg #[.int .i64 (rd l2 (kk:Int)), .slice none 0 0, .int .i64 e]),(8, .pointer (some ⟨g8,0,none⟩))]) (fun g8 w'=>Kd.R (Kd.int .i64) 2 w' wo.heap.size (fun _=>True) (.slice A6 row.length c6) row∧w'.heap[g8]? =some (.cells #[.int .i64 0, .slice none 0 0, .int .i64 0] 79)∧wo.heap.size≤g8∧Below wo.heap.size wo w') ?_ ?_;rotate_left
          · intro hCont
            refine two_ (i:=9) (j:=11) (Ni:=some 52) (Nj:=some 8) (bb 13 1023) (bb 13 2559) rfl rfl rfl rfl (by kernel_rfl) (by decide) (by decide) (fun K hK=>?_) (fun K hK=>?_)
            · refine gs_ Try.func41 #[.slice A6 row.length c6, .int .i64 (l1.length:Int)] ?_
              with_reducible refine(spec_l10Default.calls k A6 c6 row (l1.length:Int) e _ (Kd.R_reads' HO.o).2.2 (L_of_R HO.o) HDF1.o).mono ?_
              rintro en w7 ⟨rfl,hb⟩;refine⟨_,rfl,?_⟩;replace HO:=q_ (Kd.R_below HO.o hb);replace HWd:=sb_ HWd hb;clear hb;refine hK.out _ _ ⟨(blk_cell (blk_below BK1.o HWd.o) 2).trans rfl,(blk_cell (blk_below BK1.o HWd.o) 1).trans rfl,mv_ (below_step HB.o HWd.o) HX2.o⟩ (fun hS=>?_);clear hK K;refine no_ (some 52) ?_;refine pk_ 10 53 2047 ?_;refine one_ (i:=11) (N:=some 8) (bb 13 4095) rfl rfl (by kernel_rfl) (by decide) (fun K hK=>?_);refine value_ (w1:=?_) (v:=?_) (by rfl) rfl ?_ ?_;rotate_left 2
              · go_simp
                constructor
                ·rfl
                ·rfl
              have hb:Below w7.heap.size w7 (w7.alloc (.cells #[.int .i64 0, .slice none 0 0, .int .i64 0] 79)):=below_alloc (Below.refl _ _) _;have B8:=q_ (blk_new w7 (.cells #[.int .i64 0, .slice none 0 0, .int .i64 0] 79));have G8:J0 (wo.heap.size≤w7.heap.size):=⟨HWd.o.size⟩;replace HO:=q_ (Kd.R_below HO.o hb);replace HWd:=sb_ HWd hb;refine hK.out _ _ ⟨(blk_cell (blk_below BK1.o HWd.o) 2).trans rfl,(blk_cell (blk_below BK1.o HWd.o) 1).trans rfl,mv_ (below_step HB.o HWd.o) HX2.o⟩ (fun hS=>?_);clear hK K hb;refine no_ (some 8) ?_;generalize World.alloc _ (Obj.cells #[.int .i64 0, .slice none 0 0, .int .i64 0] 79)=wz at *;exact norm_ (by simp only[putAll,Act.put,List.setIfInBounds_toArray,List.set_cons_zero,List.set_cons_succ]) (hCont _ _ ⟨HO.o,B8.o,G8.o,HWd.o⟩)
            · refine value_ (w1:=?_) (v:=?_) (by rfl) rfl ?_ ?_
              rotate_left 2
              · go_simp
                constructor
                ·rfl
                ·rfl
              have hb:Below wd.heap.size wd (wd.alloc (.cells #[.int .i64 0, .slice none 0 0, .int .i64 0] 79)):=below_alloc (Below.refl _ _) _;have B8:=q_ (blk_new wd (.cells #[.int .i64 0, .slice none 0 0, .int .i64 0] 79));have G8:J0 (wo.heap.size≤wd.heap.size):=⟨HWd.o.size⟩;replace HO:=q_ (Kd.R_below HO.o hb);replace HWd:=sb_ HWd hb;refine hK.out _ _ ⟨(blk_cell (blk_below BK1.o HWd.o) 2).trans rfl,(blk_cell (blk_below BK1.o HWd.o) 1).trans rfl,mv_ (below_step HB.o HWd.o) HX2.o⟩ (fun hS=>?_);clear hK K hb;refine no_ (some 8) ?_;generalize World.alloc _ (Obj.cells #[.int .i64 0, .slice none 0 0, .int .i64 0] 79)=wz at *;refine one_ (i:=9) (N:=some 52) (bb 13 3071) rfl rfl (by kernel_rfl) (by decide) (fun K hK=>?_);refine gs_ Try.func41 #[.slice A6 row.length c6, .int .i64 (l1.length:Int)] ?_
              with_reducible refine(spec_l10Default.calls k A6 c6 row (l1.length:Int) e _ (Kd.R_reads' HO.o).2.2 (L_of_R HO.o) HDF1.o).mono ?_
              rintro en w7 ⟨rfl,hb⟩;refine⟨_,rfl,?_⟩;replace HO:=q_ (Kd.R_below HO.o hb);replace HWd:=sb_ HWd hb;replace B8:=lb_ B8 hb;clear hb;refine hK.out _ _ ⟨(blk_cell (blk_below BK1.o HWd.o) 2).trans rfl,(blk_cell (blk_below BK1.o HWd.o) 1).trans rfl,mv_ (below_step HB.o HWd.o) HX2.o⟩ (fun hS=>?_);clear hK K;refine no_ (some 52) ?_;refine pk_ 10 53 4095 ?_;exact norm_ (by simp only[putAll,Act.put,List.setIfInBounds_toArray,List.set_cons_zero,List.set_cons_succ]) (hCont _ _ ⟨HO.o,B8.o,G8.o,HWd.o⟩)
          rintro g8 w8 ⟨h0_,h1_,h2_,h3_⟩;clear HWd HO hS;have HO:=q_ h0_;have B8:=q_ h1_;have G8:=q_ h2_;have HW:=q_ h3_;clear h0_ h1_ h2_ h3_;obtain⟨hy0,hy1,hy2,hyf0,hyf1,hyf2⟩:=d3_ B8;refine norm_ (a':=?_) ?_ ?_;rotate_left
          · simp only[putAll,Act.put,List.setIfInBounds_toArray,List.set_cons_zero,List.set_cons_succ]
            rfl
          refine last_ (i:=12) (N:=none) (bb 13 8191) rfl rfl (by kernel_rfl) (by decide) (fun K hK=>?_);refine skip_ (w1:=?_) (by rfl) rfl ?_ ?_;rotate_left
          · go_simp
            rfl
          refine hK.out _ _ ?_;clear hK K;refine done_ (by kernel_rfl) ?_;have B8b:=q_ (fin3_ (a:= .int .i64 (rd l2 (kk:Int))) (b:= .slice none 0 0) (c:= .int .i64 e) B8.o);have HOb:=q_ (fin3R_ (a:= .int .i64 (rd l2 (kk:Int))) (b:= .slice none 0 0) (c:= .int .i64 e) (Kd.R_types HO.o B8.o (by decide)) (fun _ hk=>hk.2));replace HW:=q_ (finB_ (a:= .int .i64 (rd l2 (kk:Int))) (b:= .slice none 0 0) (c:= .int .i64 e) HW.o G8.o);clear B8 HO hy0 hy1 hy2 hyf0 hyf1 hyf2;generalize((w8.setCell ⟨g8,0,none⟩ (.int .i64 (rd l2 (kk:Int)))).setCell ⟨g8,1,none⟩ (.slice none 0 0)).setCell ⟨g8,2,none⟩ (.int .i64 e)=w10 at *;have B8:=B8b;have HO:=HOb;clear B8b HOb
          go_wp2_with fail
          go_loopg [9] 256 (fun gg v9 wr=>∃(b:Nat) (v1:Value),v9= .int .i64 b∧b≤256∧256-b≤gg∧J0 (wr.heap[g8]? =some (.cells #[.int .i64 (rd l2 (kk:Int)),v1, .int .i64 e] 79))∧J0 (Kd.R k81 81 wr wo.heap.size (fun _=>True) v1 (armsUp e row b))∧J0 (Kd.R (Kd.int .i64) 2 wr wo.heap.size (fun _=>True) (.slice A6 row.length c6) row)∧J0 (Below wo.heap.size wo wr))
          case atStart=>exact⟨0,_,rfl,by omega,by omega,B8,⟨Kd.R_nil _ _ _ _ _⟩,HO,HW⟩
          case round=>
            clear B8 HO HW;obtain⟨b,v1,rfl,hb256,hgb,B8,HR,HO,HW⟩:=hrel;obtain⟨A7,c7,rfl⟩:=Kd.R_slice HR.o;obtain⟨hy0,hy1,hy2,hyf0,hyf1,hyf2⟩:=d3_ B8;by_cases hlb:b<256
            · have hltz:decide ((b:Int)<256)=true:=decide_eq_true (by omega)
              have hk0:(0:Int)≤(b:Int):=by omega
              have hkr:(b:Int)<(row.length:Int):=by rw[HLN.o];omega
              obtain⟨ad5,e5,hx5⟩:=Kd.at_int (Kd.R_reads' HO.o).2.2 (b:Int) hk0 hkr;subst e5;rw[Int.toNat_natCast]at hx5;have hup:armsUp e row (b+1)=armStep e (armsUp e row b) (b:Int) (rd row (b:Int)):=rfl;have HAL:=q_ (armsUp_length e row b);generalize hu2:armsUp e row (b+1)=arms2 at *;have H2U:=q_ hu2;clear hu2;generalize armsUp e row b=arms at *;generalize hxx:rd row (b:Int)=x at *;have HX:=q_ hxx;clear hxx;have hal:=HAL.o;have hw:IntKind.i64.wrap ((arms.length:Int)-1)=(arms.length:Int)-1:=by rw[i64_w];exact wrap_id (by omega) (by omega)
              have HUP:=q_ hup;have p5:=eq_true hk0;have q5:=eq_true hkr;clear hup hal;by_cases h1:x=e
              · have d1:(x==e)=true:=beq_iff_eq.mpr h1
                have e2:J0 (arms2=arms):=⟨by rw[HUP.o];unfold armStep;rw[iP h1]⟩;clear h1 HUP
                go_wp2_with fail
                go_quiet (fail)
                go_wp2_with fail
                go_roundg (256-(b+1))
                case measure=>omega
                case rel=>exact⟨b+1,_,by go_num,by omega,by omega,⟨by first|exact B8.o|exact blk_drewN B8.o _⟩,⟨by rw[H2U.o,e2.o];first|exact HR.o|exact Kd.R_drewN HR.o⟩,⟨by first|exact HO.o|exact Kd.R_drewN HO.o⟩,⟨be_ HW.o⟩⟩
              have d1:(x==e)=false:=beq_eq_false_iff_ne.mpr h1;by_cases h2:arms.length=0
              · obtain rfl:arms= []:=List.length_eq_zero_iff.1 h2
                have e2:J0 (arms2=([]:List S81)++ [⟨(b:Int),(b:Int),x⟩]):=⟨by rw[HUP.o];unfold armStep;rw[iN h1,iN (by omega)]⟩;clear h1 HUP h2 hw
                go_wp2_with fail
                go_quiet (fail);generalize nq=n1
                go_wp2_with fail
                go_quiet (fail);generalize nq=n2
                go_wp2_with fail
                have HR1_:J0 (Kd.R k81 81 ((wr.drewN n1).drewN n2).drew wo.heap.size (fun _=>True) (.slice A7 ([]:List S81).length c7) ([]:List S81)):=⟨by(with_reducible repeat(first|apply Kd.R_drewN|apply Kd.R_drew));exact HR.o⟩;have O1_:J0 (Kd.R (Kd.int .i64) 2 ((wr.drewN n1).drewN n2).drew wo.heap.size (fun _=>True) (.slice (some ad5) row.length c6) row):=⟨by(with_reducible repeat(first|apply Kd.R_drewN|apply Kd.R_drew));exact HO.o⟩;have B81_:J0 (((wr.drewN n1).drewN n2).drew.heap[g8]? =some (.cells #[.int .i64 (rd l2 (kk:Int)), .slice A7 ([]:List S81).length c7, .int .i64 e] 79)):=⟨blk_drew (blk_drewN (blk_drewN B8.o _) _)⟩;have HW1_:J0 (Below wo.heap.size wo ((wr.drewN n1).drewN n2).drew):=⟨below_drew1 (pw_below_drewN (pw_below_drewN HW.o _) _)⟩;have hx51:((wr.drewN n1).drewN n2).drew.cell? (ad5.add b)=some (.int .i64 x):=mv_ (below_drew1 (pw_below_drewN (pw_below_drewN (Below.refl wr.heap.size wr) _) _)) hx5;clear HR HO B8 HW hx5;have HR:=HR1_;have HO:=O1_;have B8:=B81_;have HW:=HW1_;have hx5:=hx51;clear HR1_ O1_ B81_ HW1_ hx51;clear hy0 hy1 hy2 hyf0 hyf1 hyf2;refine start_ (n:=13) (S:=fun w'=>w'.cell? ⟨g8,1,none⟩=some (.slice A7 ([]:List S81).length c7)∧w'.cell? (ad5.add b)=some (.int .i64 x)) (ds:=[12]) (bb 13 0) (by kernel_rfl) rfl rfl ⟨(blk_cell B8.o 1).trans rfl,hx5⟩ (fun hS=>?_);generalize((wr.drewN n1).drewN n2).drew=wd at HR HO B8 HW hx5 hS ⊢;clear hx5;refine pk_ 0 61 1 ?_;refine tk_ 1 62 3 hS ?_;refine pk_ 2 63 7 ?_;refine pk_ 3 64 15 ?_;refine pk_ 4 65 31 ?_;refine pk_ 5 66 63 ?_;refine pk_ 6 67 127 ?_;refine tk_ 7 68 255 hS ?_;refine pk_ 8 69 511 ?_;refine one_ (i:=9) (N:=some 70) (bb 13 1023) rfl rfl (by kernel_rfl) (by decide) (fun K hK=>?_);refine value_ (w1:=?_) (v:=?_) (by rfl) rfl ?_ ?_;rotate_left 2
                · go_simp
                  constructor
                  ·rfl
                  ·rfl
                have hb:∀o,Below wd.heap.size wd (wd.alloc o):=fun o=>below_alloc (Below.refl _ _) o
                refine hK.out _ _ ⟨mv_ (hb _) hS.1,mv_ (hb _) hS.2⟩ (fun hS=>?_);clear hK K hb;refine no_ (some 70) ?_;refine one_ (i:=10) (N:=some 71) (bb 13 2047) rfl rfl (by kernel_rfl) (by decide) (fun K hK=>?_);refine Kd.R_append_step k81 (w0:=wo) wo.heap.size (by rfl) (.tmp 62) (.tmp 70) 77 81 (.agg #[(.int .i64 0),(.int .i64 0),(.int .i64 0)]) 24 rfl Try.underlying77 infoArm_ rfl (by decide) (by omega) (.slice A7 ([]:List S81).length c7) ([]:List S81) (⟨(b:Int),(b:Int),x⟩:S81) [.int .i64 (b:Int), .int .i64 (b:Int), .int .i64 x] (fun _=>True) (fun _=>False) rfl rfl ?aP (fun _ hk=>hk.elim) ?aF ?aO ?aB ?aS ?aL ?_;(case aP=>exact k81_mkM _ _ _ (⟨(b:Int),(b:Int),x⟩:S81));(case aF=>exact(fun _ _=>trivial));(case aO=>exact HR.o);(case aB=>exact HW.o);(case aS=>exact HW.o.size);(case aL=>first|decide| (have:=HAL.o;omega));intro v9 w9 ho hb hgr hat;obtain⟨A9,c9,rfl⟩:=Kd.R_slice ho;have hln:(([]:List S81)++ [(⟨(b:Int),(b:Int),x⟩:S81)]).length=1:=(by simp);rw[hln]at ho ⊢;have HR2:=q_ ho;have O2:=q_ (Kd.R_over' HO.o (Kd.R_typed HR.o) (by decide) hgr);have B82:=q_ (blk_grown B8.o hgr (Kd.R_ne HR.o B8.o (by decide)));have HW2:=q_ hb;obtain⟨ad6,e6,hx6⟩:=Kd.at_int (Kd.R_reads' O2.o).2.2 (b:Int) hk0 hkr;obtain rfl:ad5=ad6:=by injection e6
                rw[Int.toNat_natCast,HX.o]at hx6;refine hK.out _ _ ⟨(blk_cell B82.o 1).trans rfl,hx6⟩ (fun hS=>?_);clear hK K ho hb hgr hat hx6;refine no_ (some 71) ?_;refine pk_ 11 72 4095 ?_;have hf1:=blk_frozen B82.o 1;refine last_ (i:=12) (N:=none) (bb 13 8191) rfl rfl (by kernel_rfl) (by decide) (fun K hK=>?_);refine skip_ (w1:=?_) (by rfl) rfl ?_ ?_;rotate_left
                · go_simp
                  rfl
                refine hK.out _ _ ?_;clear hK K;refine done_ (by kernel_rfl) ?_;clear hf1 hS B8 HR HO HW hln
                go_wp2_with fail
                go_roundg (256-(b+1))
                case measure=>omega
                case rel=>exact⟨b+1,_,by go_num,by omega,by omega,⟨blk_put B82.o 1 _ rfl⟩,⟨by rw[H2U.o,e2.o];exact Kd.R_set HR2.o B82.o (by decide) 1 _⟩,⟨Kd.R_set O2.o B82.o (by decide) 1 _⟩,⟨below_set HW2.o G8.o⟩⟩
              · have hpos:0<arms.length:=by omega
                obtain⟨ad7,e7,hc0,hc1,hc2⟩:=at_T81 (Kd.R_reads' HR.o).2.2 ((arms.length:Int)-1) (by omega) (by omega);subst e7;rw[show((arms.length:Int)-1).toNat=arms.length-1 by omega]at hc0 hc1 hc2;have p1:=eq_true (show(0:Int)≤(arms.length:Int)-1 by omega);have q1:=eq_true (show(arms.length:Int)-1<(arms.length:Int) by omega);have d2:decide ((arms.length:Int)>0)=true:=decide_eq_true (by omega);have hw2:IntKind.i64.wrap ((b:Int)-1)=(b:Int)-1:=by rw[i64_w];exact wrap_id (by omega) (by omega)
                have hup:=HUP.o;unfold armStep at hup;rw[iN h1]at hup;clear HUP;generalize hyy:rd_T81 arms ((arms.length:Int)-1)=y at *;have HYY:=q_ hyy;clear hyy;by_cases h3:y.f1=(b:Int)-1;rotate_left
                · have d3:(y.f1== (b:Int)-1)=false:=beq_eq_false_iff_ne.mpr h3
                  have e2:J0 (arms2=arms++ [⟨(b:Int),(b:Int),x⟩]):=⟨by rw[hup,iN (by rintro⟨_,h,_⟩;exact h3 h)]⟩;clear h1 h2 h3 hup
                  go_wp2_with fail
                  go_quiet (fail);generalize nq=n1
                  go_wp2_with fail
                  go_quiet (fail);generalize nq=n2
                  go_wp2_with fail
                  have HR1_:J0 (Kd.R k81 81 ((wr.drewN n1).drewN n2).drew wo.heap.size (fun _=>True) (.slice (some ad7) arms.length c7) arms):=⟨by(with_reducible repeat(first|apply Kd.R_drewN|apply Kd.R_drew));exact HR.o⟩;have O1_:J0 (Kd.R (Kd.int .i64) 2 ((wr.drewN n1).drewN n2).drew wo.heap.size (fun _=>True) (.slice (some ad5) row.length c6) row):=⟨by(with_reducible repeat(first|apply Kd.R_drewN|apply Kd.R_drew));exact HO.o⟩;have B81_:J0 (((wr.drewN n1).drewN n2).drew.heap[g8]? =some (.cells #[.int .i64 (rd l2 (kk:Int)), .slice (some ad7) arms.length c7, .int .i64 e] 79)):=⟨blk_drew (blk_drewN (blk_drewN B8.o _) _)⟩;have HW1_:J0 (Below wo.heap.size wo ((wr.drewN n1).drewN n2).drew):=⟨below_drew1 (pw_below_drewN (pw_below_drewN HW.o _) _)⟩;have hx51:((wr.drewN n1).drewN n2).drew.cell? (ad5.add b)=some (.int .i64 x):=mv_ (below_drew1 (pw_below_drewN (pw_below_drewN (Below.refl wr.heap.size wr) _) _)) hx5;clear HR HO B8 HW hx5;have HR:=HR1_;have HO:=O1_;have B8:=B81_;have HW:=HW1_;have hx5:=hx51;clear HR1_ O1_ B81_ HW1_ hx51;clear hy0 hy1 hy2 hyf0 hyf1 hyf2 hc0 hc1 hc2;refine start_ (n:=13) (S:=fun w'=>w'.cell? ⟨g8,1,none⟩=some (.slice (some ad7) arms.length c7)∧w'.cell? (ad5.add b)=some (.int .i64 x)) (ds:=[12]) (bb 13 0) (by kernel_rfl) rfl rfl ⟨(blk_cell B8.o 1).trans rfl,hx5⟩ (fun hS=>?_);generalize((wr.drewN n1).drewN n2).drew=wd at HR HO B8 HW hx5 hS ⊢;clear hx5;refine pk_ 0 61 1 ?_;refine tk_ 1 62 3 hS ?_;refine pk_ 2 63 7 ?_;refine pk_ 3 64 15 ?_;refine pk_ 4 65 31 ?_;refine pk_ 5 66 63 ?_;refine pk_ 6 67 127 ?_;refine tk_ 7 68 255 hS ?_;refine pk_ 8 69 511 ?_;refine one_ (i:=9) (N:=some 70) (bb 13 1023) rfl rfl (by kernel_rfl) (by decide) (fun K hK=>?_);refine value_ (w1:=?_) (v:=?_) (by rfl) rfl ?_ ?_;rotate_left 2
                  · go_simp
                    constructor
                    ·rfl
                    ·rfl
                  have hb:∀o,Below wd.heap.size wd (wd.alloc o):=fun o=>below_alloc (Below.refl _ _) o
                  refine hK.out _ _ ⟨mv_ (hb _) hS.1,mv_ (hb _) hS.2⟩ (fun hS=>?_);clear hK K hb;refine no_ (some 70) ?_;refine one_ (i:=10) (N:=some 71) (bb 13 2047) rfl rfl (by kernel_rfl) (by decide) (fun K hK=>?_);refine Kd.R_append_step k81 (w0:=wo) wo.heap.size (by rfl) (.tmp 62) (.tmp 70) 77 81 (.agg #[(.int .i64 0),(.int .i64 0),(.int .i64 0)]) 24 rfl Try.underlying77 infoArm_ rfl (by decide) (by omega) (.slice (some ad7) arms.length c7) arms (⟨(b:Int),(b:Int),x⟩:S81) [.int .i64 (b:Int), .int .i64 (b:Int), .int .i64 x] (fun _=>True) (fun _=>False) rfl rfl ?aP (fun _ hk=>hk.elim) ?aF ?aO ?aB ?aS ?aL ?_;(case aP=>exact k81_mkM _ _ _ (⟨(b:Int),(b:Int),x⟩:S81));(case aF=>exact(fun _ _=>trivial));(case aO=>exact HR.o);(case aB=>exact HW.o);(case aS=>exact HW.o.size);(case aL=>first|decide| (have:=HAL.o;omega));intro v9 w9 ho hb hgr hat;obtain⟨A9,c9,rfl⟩:=Kd.R_slice ho;have hln:(arms++ [(⟨(b:Int),(b:Int),x⟩:S81)]).length=arms.length+1:=(by simp);rw[hln]at ho ⊢;have HR2:=q_ ho;have O2:=q_ (Kd.R_over' HO.o (Kd.R_typed HR.o) (by decide) hgr);have B82:=q_ (blk_grown B8.o hgr (Kd.R_ne HR.o B8.o (by decide)));have HW2:=q_ hb;obtain⟨ad6,e6,hx6⟩:=Kd.at_int (Kd.R_reads' O2.o).2.2 (b:Int) hk0 hkr;obtain rfl:ad5=ad6:=by injection e6
                  rw[Int.toNat_natCast,HX.o]at hx6;refine hK.out _ _ ⟨(blk_cell B82.o 1).trans rfl,hx6⟩ (fun hS=>?_);clear hK K ho hb hgr hat hx6;refine no_ (some 71) ?_;refine pk_ 11 72 4095 ?_;have hf1:=blk_frozen B82.o 1;refine last_ (i:=12) (N:=none) (bb 13 8191) rfl rfl (by kernel_rfl) (by decide) (fun K hK=>?_);refine skip_ (w1:=?_) (by rfl) rfl ?_ ?_;rotate_left
                  · go_simp
                    rfl
                  refine hK.out _ _ ?_;clear hK K;refine done_ (by kernel_rfl) ?_;clear hf1 hS B8 HR HO HW hln
                  go_wp2_with fail
                  go_roundg (256-(b+1))
                  case measure=>omega
                  case rel=>exact⟨b+1,_,by go_num,by omega,by omega,⟨blk_put B82.o 1 _ rfl⟩,⟨by rw[H2U.o,e2.o];exact Kd.R_set HR2.o B82.o (by decide) 1 _⟩,⟨Kd.R_set O2.o B82.o (by decide) 1 _⟩,⟨below_set HW2.o G8.o⟩⟩
                by_cases h4:y.f2=x;rotate_left
                · have d3:(y.f1== (b:Int)-1)=true:=beq_iff_eq.mpr h3
                  have d4:(y.f2==x)=false:=beq_eq_false_iff_ne.mpr h4;have e2:J0 (arms2=arms++ [⟨(b:Int),(b:Int),x⟩]):=⟨by rw[hup,iN (by rintro⟨_,_,h⟩;exact h4 h)]⟩;clear h1 h2 h3 h4 hup
                  go_wp2_with fail
                  go_quiet (fail);generalize nq=n1
                  go_wp2_with fail
                  go_quiet (fail);generalize nq=n2
                  go_wp2_with fail
                  have HR1_:J0 (Kd.R k81 81 ((wr.drewN n1).drewN n2).drew wo.heap.size (fun _=>True) (.slice (some ad7) arms.length c7) arms):=⟨by(with_reducible repeat(first|apply Kd.R_drewN|apply Kd.R_drew));exact HR.o⟩;have O1_:J0 (Kd.R (Kd.int .i64) 2 ((wr.drewN n1).drewN n2).drew wo.heap.size (fun _=>True) (.slice (some ad5) row.length c6) row):=⟨by(with_reducible repeat(first|apply Kd.R_drewN|apply Kd.R_drew));exact HO.o⟩;have B81_:J0 (((wr.drewN n1).drewN n2).drew.heap[g8]? =some (.cells #[.int .i64 (rd l2 (kk:Int)), .slice (some ad7) arms.length c7, .int .i64 e] 79)):=⟨blk_drew (blk_drewN (blk_drewN B8.o _) _)⟩;have HW1_:J0 (Below wo.heap.size wo ((wr.drewN n1).drewN n2).drew):=⟨below_drew1 (pw_below_drewN (pw_below_drewN HW.o _) _)⟩;have hx51:((wr.drewN n1).drewN n2).drew.cell? (ad5.add b)=some (.int .i64 x):=mv_ (below_drew1 (pw_below_drewN (pw_below_drewN (Below.refl wr.heap.size wr) _) _)) hx5;clear HR HO B8 HW hx5;have HR:=HR1_;have HO:=O1_;have B8:=B81_;have HW:=HW1_;have hx5:=hx51;clear HR1_ O1_ B81_ HW1_ hx51;clear hy0 hy1 hy2 hyf0 hyf1 hyf2 hc0 hc1 hc2;refine start_ (n:=13) (S:=fun w'=>w'.cell? ⟨g8,1,none⟩=some (.slice (some ad7) arms.length c7)∧w'.cell? (ad5.add b)=some (.int .i64 x)) (ds:=[12]) (bb 13 0) (by kernel_rfl) rfl rfl ⟨(blk_cell B8.o 1).trans rfl,hx5⟩ (fun hS=>?_);generalize((wr.drewN n1).drewN n2).drew=wd at HR HO B8 HW hx5 hS ⊢;clear hx5;refine pk_ 0 61 1 ?_;refine tk_ 1 62 3 hS ?_;refine pk_ 2 63 7 ?_;refine pk_ 3 64 15 ?_;refine pk_ 4 65 31 ?_;refine pk_ 5 66 63 ?_;refine pk_ 6 67 127 ?_;refine tk_ 7 68 255 hS ?_;refine pk_ 8 69 511 ?_;refine one_ (i:=9) (N:=some 70) (bb 13 1023) rfl rfl (by kernel_rfl) (by decide) (fun K hK=>?_);refine value_ (w1:=?_) (v:=?_) (by rfl) rfl ?_ ?_;rotate_left 2
                  · go_simp
                    constructor
                    ·rfl
                    ·rfl
                  have hb:∀o,Below wd.heap.size wd (wd.alloc o):=fun o=>below_alloc (Below.refl _ _) o
                  refine hK.out _ _ ⟨mv_ (hb _) hS.1,mv_ (hb _) hS.2⟩ (fun hS=>?_);clear hK K hb;refine no_ (some 70) ?_;refine one_ (i:=10) (N:=some 71) (bb 13 2047) rfl rfl (by kernel_rfl) (by decide) (fun K hK=>?_);refine Kd.R_append_step k81 (w0:=wo) wo.heap.size (by rfl) (.tmp 62) (.tmp 70) 77 81 (.agg #[(.int .i64 0),(.int .i64 0),(.int .i64 0)]) 24 rfl Try.underlying77 infoArm_ rfl (by decide) (by omega) (.slice (some ad7) arms.length c7) arms (⟨(b:Int),(b:Int),x⟩:S81) [.int .i64 (b:Int), .int .i64 (b:Int), .int .i64 x] (fun _=>True) (fun _=>False) rfl rfl ?aP (fun _ hk=>hk.elim) ?aF ?aO ?aB ?aS ?aL ?_;(case aP=>exact k81_mkM _ _ _ (⟨(b:Int),(b:Int),x⟩:S81));(case aF=>exact(fun _ _=>trivial));(case aO=>exact HR.o);(case aB=>exact HW.o);(case aS=>exact HW.o.size);(case aL=>first|decide| (have:=HAL.o;omega));intro v9 w9 ho hb hgr hat;obtain⟨A9,c9,rfl⟩:=Kd.R_slice ho;have hln:(arms++ [(⟨(b:Int),(b:Int),x⟩:S81)]).length=arms.length+1:=(by simp);rw[hln]at ho ⊢;have HR2:=q_ ho;have O2:=q_ (Kd.R_over' HO.o (Kd.R_typed HR.o) (by decide) hgr);have B82:=q_ (blk_grown B8.o hgr (Kd.R_ne HR.o B8.o (by decide)));have HW2:=q_ hb;obtain⟨ad6,e6,hx6⟩:=Kd.at_int (Kd.R_reads' O2.o).2.2 (b:Int) hk0 hkr;obtain rfl:ad5=ad6:=by injection e6
                  rw[Int.toNat_natCast,HX.o]at hx6;refine hK.out _ _ ⟨(blk_cell B82.o 1).trans rfl,hx6⟩ (fun hS=>?_);clear hK K ho hb hgr hat hx6;refine no_ (some 71) ?_;refine pk_ 11 72 4095 ?_;have hf1:=blk_frozen B82.o 1;refine last_ (i:=12) (N:=none) (bb 13 8191) rfl rfl (by kernel_rfl) (by decide) (fun K hK=>?_);refine skip_ (w1:=?_) (by rfl) rfl ?_ ?_;rotate_left
                  · go_simp
                    rfl
                  refine hK.out _ _ ?_;clear hK K;refine done_ (by kernel_rfl) ?_;clear hf1 hS B8 HR HO HW hln
                  go_wp2_with fail
                  go_roundg (256-(b+1))
                  case measure=>omega
                  case rel=>exact⟨b+1,_,by go_num,by omega,by omega,⟨blk_put B82.o 1 _ rfl⟩,⟨by rw[H2U.o,e2.o];exact Kd.R_set HR2.o B82.o (by decide) 1 _⟩,⟨Kd.R_set O2.o B82.o (by decide) 1 _⟩,⟨below_set HW2.o G8.o⟩⟩
                · have d3:(y.f1== (b:Int)-1)=true:=beq_iff_eq.mpr h3
                  have d4:(y.f2==x)=true:=beq_iff_eq.mpr h4;have e2:J0 (arms2=arms.set (arms.length-1) ⟨y.f0,(b:Int),y.f2⟩):=⟨by rw[hup,iP ⟨hpos,h3,h4⟩]⟩;have H0:J0 (0<arms.length):=⟨hpos⟩;clear h1 h2 h3 h4 hup
                  go_wp2_with fail
                  go_quiet (fail);generalize nq=n1
                  go_wp2_with fail
                  go_quiet (fail);generalize nq=n2;have HR1_:J0 (Kd.R k81 81 ((wr.drewN n1).drewN n2) wo.heap.size (fun _=>True) (.slice (some ad7) arms.length c7) arms):=⟨by(with_reducible repeat(first|apply Kd.R_drewN|apply Kd.R_drew));exact HR.o⟩;have O1_:J0 (Kd.R (Kd.int .i64) 2 ((wr.drewN n1).drewN n2) wo.heap.size (fun _=>True) (.slice (some ad5) row.length c6) row):=⟨by(with_reducible repeat(first|apply Kd.R_drewN|apply Kd.R_drew));exact HO.o⟩;have B81_:J0 (((wr.drewN n1).drewN n2).heap[g8]? =some (.cells #[.int .i64 (rd l2 (kk:Int)), .slice (some ad7) arms.length c7, .int .i64 e] 79)):=⟨blk_drewN (blk_drewN B8.o _) _⟩;have HW1_:J0 (Below wo.heap.size wo ((wr.drewN n1).drewN n2)):=⟨pw_below_drewN (pw_below_drewN HW.o _) _⟩;clear HR HO B8 HW hx5 hy0 hy1 hy2 hyf0 hyf1 hyf2 hc0 hc1 hc2 d3 d4 d1;generalize((wr.drewN n1).drewN n2)=wd at *;have HR:=HR1_;have HO:=O1_;have B8:=B81_;have HW:=HW1_;clear HR1_ O1_ B81_ HW1_;obtain⟨hy0,hy1,hy2,hyf0,hyf1,hyf2⟩:=d3_ B8;obtain⟨g9,cap9,hv,hg9,_,_⟩:=Kd.R_form HR.o H0.o;obtain rfl:ad7=⟨g9,0,none⟩:=by injection hv with h;injection h
                  obtain⟨cs,hcl,hM,hcc,hfr⟩:=Kd.R_elem HR.o z81 ((arms.length:Int)-1) (by omega) (by omega);have hM:(k81).M wd wo.heap.size (fun k=>True∧k≠g9) y cs:=by rw[←HYY.o];exact hM
                  obtain rfl:=k81_openM hM;have HSG:=q_ (Kd.R_seg HR.o ((arms.length:Int)-1) (by omega) (by omega) (seg:=[.int .i64 (b:Int)]) (j:=1) hcl hcc (show 1+1≤3 by decide) (x':=(⟨y.f0,(b:Int),y.f2⟩:S81)) (k81_mkM wd wo.heap.size (fun k=>True∧k≠g9) (⟨y.f0,(b:Int),y.f2⟩:S81)) (fun _ hk=>hk));have hf:wd.frozen? ⟨g9,(arms.length-1)*3+1,none⟩=false:=by have h:=hfr 1;rwa [show((arms.length:Int)-1).toNat=arms.length-1 by omega]at h
                  have hc1':wd.cell? ⟨g9,(arms.length-1)*3+1,none⟩=some (.int .i64 y.f1):=by have h:=hcc 1 _ rfl;rwa [show((arms.length:Int)-1).toNat=arms.length-1 by omega]at h
                  have G9:=q_ hg9;clear hv hg9 hM hcc hfr hcl;go_wp2
                  go_roundg (256-(b+1))
                  case measure=>omega
                  case rel=>
                    obtain⟨hs1_,hs2_⟩:=HSG.o;rw[show((arms.length:Int)-1).toNat=arms.length-1 by have:=H0.o;omega]at hs1_ hs2_;exact⟨b+1,_,by go_num,by omega,by omega,⟨blk_grown B8.o hs2_ (Kd.R_ne HR.o B8.o (by decide))⟩,⟨by rw[H2U.o,e2.o];exact hs1_⟩,⟨Kd.R_over' HO.o (Kd.R_typed HR.o) (by decide) hs2_⟩,⟨below_set HW.o G9.o⟩⟩
            · have e256:b=256:=by omega
              subst e256;have hltz:decide (((256:Nat):Int)<256)=false:=by decide
              clear hgb hb256 hlb;generalize armsUp e row 256=arms at *;have B4w:=q_ (blk_below B4.o HW.o);have BK1w:=q_ (blk_below BK1.o HW.o);have BRw:=q_ (blk_below BR.o HW.o);obtain⟨hq0,hqf⟩:=d1_ B4w;have HAw:=q_ (Kd.S_below (Kd.S_mono (Kd.S_bound HA.o) (ok':=fun k=>True∧¬wo.heap.size≤k) fun k hk=>⟨trivial,Nat.not_le.2 hk.2.2.1⟩) HW.o);have HL0:=q_ (Kd.S_lt HA.o);have HBw:=q_ (below_step HB.o HW.o);have HV:J0 (Kd.R k81 81 wr w.heap.size (fun k=>wo.heap.size≤k) (.slice A7 arms.length c7) arms):=⟨Kd.R_lower (Kd.R_mono (Kd.R_bound HR.o) fun k hk=>hk.2.1) HB.o.size⟩;generalize rd l2 (kk:Int)=ac at *;clear HR HO
              go_wp2_with(first| ((with_reducible refine gate_builtin (b:= .append) (xs:=#[.tmp 118, .tmp 120]) rfl ?_);at_builtin;refine Kd.S_append k79 (w0:=w) w.heap.size rfl (.tmp 118) (.tmp 120) 27 79 (.agg #[(.int .i64 0),(.slice none 0 0),(.int .i64 0)]) 40 rfl Try.underlying27 infoCBlockS_ rfl (by decide) (by omega) (.slice A8 code.length c8) code (⟨ac,arms,e⟩:S79) [.int .i64 ac, .slice A7 arms.length c7, .int .i64 e] (fun _=>True) (fun k=>wo.heap.size≤k) rfl rfl ?aP ?aQ ?aF HAw.o HBw.o (below_size HBw.o) ?aL ?_;(case aP=>exact k79_mkM _ _ _ (⟨ac,arms,e⟩:S79) HV.o);(case aQ=>exact fun k hk=>⟨trivial,fun e=>Nat.not_lt.2 hk (HL0.o k e.symm)⟩);(case aF=>exact fun k hk=>trivial);(case aL=>rw[HCL.o];omega);intro v9 w9 ho hb hgr hat;have B4n:=q_ (blk_grown B4w.o hgr (Kd.S_ne HAw.o B4w.o (by decide)));have BK1n:=q_ (blk_grown BK1w.o hgr (Kd.S_ne HAw.o BK1w.o (by decide)));have BRn:=q_ (blk_grown BRw.o hgr (Kd.S_ne HAw.o BRw.o (by decide)));obtain⟨A9,c9,e9⟩:=Kd.S_slice ho;subst e9;have hln:(code++ [(⟨ac,arms,e⟩:S79)]).length=code.length+1:=(by simp);rw[hln]at ho ⊢;have HAn:=q_ ho;have HBn:=q_ hb;clear ho hb hgr hat hln hq0 hqf;obtain⟨hq0,hqf⟩:=d1_ B4n))
              go_roundg (l1.length-(kk+1))
              case measure=>omega
              case rel=>exact⟨kk+1,_,by go_num,by omega,by omega,⟨blk_put B4n.o 0 _ rfl⟩,⟨by rw[HCU.o,HSC.o];exact Kd.S_set HAn.o B4n.o (by decide) 0 _⟩,⟨blk_far BK1n.o N1.o _⟩,⟨blk_far BRn.o NR.o _⟩,⟨below_set HBn.o G4.o⟩⟩
    ·have e1:kk=l1.length:=by omega
     subst e1;have hltz:decide ((l1.length:Int)<(l1.length:Int))=false:=decide_eq_false (by omega);obtain⟨hy0,hyf⟩:=d1_ B4;obtain⟨hrz0,hrf0⟩:=d1_ BR;have HCL:=q_ (codeG_length l0 l1 l2 l1.length);clear hgg hkk hlt;go_wp2;refine bodyPost_ret (results_ct rfl _ _ gr 29 #[.slice A8 (codeG l0 l1 l2 l1.length).length c8] (0,0) _ rfl (blk_put BR.o 0 _ rfl) Try.underlying29 rfl (by kernel_rfl)) rfl ?_;exact⟨_,rfl,Kd.S_set HA.o BR.o (by decide) 0 _,below_set HB.o GR.o⟩
theorem GenCodeS_hand(A0 A1 A2:Option Addr)(c0 c1 c2:Nat)(l0:List Int)(l1:List (List Int))(l2:List Int)(k:Nat)(hk:spec_DfaOk.f k l0 l1 l2=some (dfaB l0 l1 l2))(hdef:dfaB l0 l1 l2=true→∀s,s<l1.length→spec_l10Default.f k (rowG l0 l1 (s:Int) 256) l1.length=some (bestR (rowG l0 l1 (s:Int) 256) l1.length))(w:World)(hr0:Kd.C (Kd.int .i64) w A0 l0.length l0)(hc0:l0.length≤c0)(hr1:Kd.C (Kd.slice 2 (Kd.int .i64)) w A1 l1.length l1)(hc1:l1.length≤c1)(hr2:Kd.C (Kd.int .i64) w A2 l2.length l2)(hc2:l2.length≤c2):
   Calls Try.prog 9 #[.agg #[.slice A0 l0.length c0, .slice A1 l1.length c1, .slice A2 l2.length c2]] w fun e w'=>∃v,e= .returned (.tuple #[.agg #[v], .bool (dfaB l0 l1 l2)])∧Kd.S k79 79 w' w.heap.size (fun _=>True) v (if dfaB l0 l1 l2=true then codeG l0 l1 l2 l1.length else[])∧Below w.heap.size w w':=by
 by_cases h:dfaB l0 l1 l2=true
 ·rw[iP h,h]
  exact GenCodeS_some A0 A1 A2 c0 c1 c2 l0 l1 l2 k (by rw[hk,h]) h (hdef h) w hr0 hc0 hr1 hc1 hr2 hc2
 ·have h:=Bool.not_eq_true _ ▸ h
  rw[h,iN (by decide)];refine(GenCodeS_none A0 A1 A2 c0 c1 c2 l0 l1 l2 k (by rw[hk,h]) w hr0 hc0 hr1 hc1 hr2 hc2).mono ?_;rintro e w' ⟨rfl,hb⟩;exact⟨_,rfl,Kd.S_nil _ _ _ _ _,hb⟩
end Go.Proofs.Ytlecpdpdcocibaa.P
namespace Go.Proofs.Ytlecpdpdcocibaa.P
open Go.RowKit Go.Proofs.YtlecpdpdcocibaaW.PrintWords Go.Proofs.YtlecpdpdcocibaaW.PrintLast Go.Proofs.YtlecpdpdcocibaaW.PrintMore
attribute [local go_sem] max2_int min2_int max_two min_two max_three min_three max_four min_four
set_option linter.unusedVariables false
set_option linter.unusedSimpArgs false
def spec_GenCode.f(k:Nat)(l0_0:List Int)(l0_1:List (List Int))(l0_2:List Int):Option (List S79 × Bool):=if spec_DfaOk.f k l0_0 l0_1 l0_2=some (dfaB l0_0 l0_1 l0_2)∧(dfaB l0_0 l0_1 l0_2=true→∀s,s<l0_1.length→spec_l10Default.f k (rowG l0_0 l0_1 (s:Int) 256) l0_1.length=some (bestR (rowG l0_0 l0_1 (s:Int) 256) l0_1.length))then some (if dfaB l0_0 l0_1 l0_2=true then codeG l0_0 l0_1 l0_2 l0_1.length else[],dfaB l0_0 l0_1 l0_2)else none
theorem spec_GenCode.calls(k:Nat)(A0_0:Option Addr)(c0_0:Nat)(l0_0:List Int)(A0_1:Option Addr)(c0_1:Nat)(l0_1:List (List Int))(A0_2:Option Addr)(c0_2:Nat)(l0_2:List Int)(r1:List S79)(r2:Bool)(w:World)(hr0_0:Kd.C (Kd.int .i64) w A0_0 l0_0.length l0_0)(hc0_0:l0_0.length≤c0_0)(hr0_1:Kd.C (Kd.slice 2 (Kd.int .i64)) w A0_1 l0_1.length l0_1)(hc0_1:l0_1.length≤c0_1)(hr0_2:Kd.C (Kd.int .i64) w A0_2 l0_2.length l0_2)(hc0_2:l0_2.length≤c0_2)(h:spec_GenCode.f k l0_0 l0_1 l0_2=some (r1,r2)):
    Calls Try.prog 9 #[.agg #[.slice A0_0 l0_0.length c0_0, .slice A0_1 l0_1.length c0_1, .slice A0_2 l0_2.length c0_2]] w fun e w'=>∃v0_:Value,e= .returned (.tuple #[.agg #[v0_], .bool r2])∧Kd.S k79 79 w' w.heap.size (fun _=>True) v0_ r1∧Below w.heap.size w w':=by
 unfold spec_GenCode.f at h;split at h
 ·rename_i hk
  have h:=Option.some.inj h;injection h with h1 h2
  subst h1 h2;exact GenCodeS_hand A0_0 A0_1 A0_2 c0_0 c0_1 c0_2 l0_0 l0_1 l0_2 k hk.1 hk.2 w hr0_0 hc0_0 hr0_1 hc0_1 hr0_2 hc0_2
 ·simp at h
end Go.Proofs.Ytlecpdpdcocibaa.P
namespace Go.Proofs.Ytlecpdpdcocibaa.P
open Go.RowKit Go.Proofs.YtlecpdpdcocibaaW.PrintWords Go.Proofs.YtlecpdpdcocibaaW.PrintLast Go.Proofs.YtlecpdpdcocibaaW.PrintMore
set_option linter.unusedVariables false
set_option linter.unusedSimpArgs false
def putE(cs:List S79)(s x:Int):List S79:=cs.set s.toNat ⟨(cs.getD s.toNat z79).f0,(cs.getD s.toNat z79).f1,x⟩
def putA(cs:List S79)(s x:Int):List S79:=cs.set s.toNat ⟨x,(cs.getD s.toNat z79).f1,(cs.getD s.toNat z79).f2⟩
def putM(cs:List S79)(s:Int)(m:List S81):List S79:=cs.set s.toNat ⟨(cs.getD s.toNat z79).f0,m,(cs.getD s.toNat z79).f2⟩
def armsAt(cs:List S79)(s:Int):List S81:=(cs.getD s.toNat z79).f1
def oddCode(k:Nat)(b:List Int)(p:Int)(cs:List S79)(s o:Int):Option (List S79 × Int):=
 if o=0 then(spec_l1Rd_off.f k b p 0 (wrap64 ((cs.length:Int)-1))).bind fun t=>some (putE cs s t.1,t.2)
 else if o=1 then(spec_l1Rd_off.f k b p (-1) 39).bind fun t=>some (putA cs s t.1,t.2)
 else if o=2 then(spec_l1Rd_off.f k b p 0 255).bind fun t1=>(spec_l1Rd_off.f k b t1.2 0 255).bind fun t2=>(spec_l1Rd_below.f b t2.2 cs.length).bind fun t3=>if(armsAt cs s).length≤100000 then some (putM cs s (armsAt cs s++ [⟨t1.1,t2.1,t3.1⟩]),t3.2)else none
 else if o=3 then if 0<(armsAt cs s).length then(spec_l1Rd_off.f k b p 0 (wrap64 ((cs.length:Int)-1))).bind fun t=>some (putM cs s ((armsAt cs s).set 0 ⟨((armsAt cs s).getD 0 z81).f0,((armsAt cs s).getD 0 z81).f1,t.1⟩),t.2)else some (cs,p)
 else some (cs,p)
def codeF(k:Nat)(b:List Int)(p:Int):Option (List S79 × Int):=
 (spec_l1Rd_dfa.f k b p).bind fun t=>(spec_GenCode.f k t.1 t.2.1 t.2.2.1).bind fun c=>(spec_l1Rd_below.f b t.2.2.2 c.1.length).bind fun s=>if 0≤s.1∧s.1<c.1.length then(spec_l1Rd_below.f b s.2 24).bind fun o=>oddCode k b o.2 c.1 s.1 o.1 else none
theorem GenCode_mono(k:Nat)(l0:List Int)(l1:List (List Int))(l2:List Int):LeO (spec_GenCode.f k l0 l1 l2) (spec_GenCode.f (k+1) l0 l1 l2):=by
 intro r h;unfold spec_GenCode.f at h ⊢;split at h
 ·rename_i hk
  rw[iP ⟨spec_DfaOk.mono _ _ _ _ _ hk.1,fun hd s hs=>spec_l10Default.mono _ _ _ _ (hk.2 hd s hs)⟩];exact h
 ·simp at h
end Go.Proofs.Ytlecpdpdcocibaa.P
namespace Go.Proofs.Ytlecpdpdcocibaa.P
open Go.RowKit Go.Proofs.YtlecpdpdcocibaaW.PrintWords Go.Proofs.YtlecpdpdcocibaaW.PrintLast Go.Proofs.YtlecpdpdcocibaaW.PrintMore Go.Proofs.YtlecpdpdcocibaaEv
set_option linter.unusedVariables false
set_option linter.unusedSimpArgs false
structure Cst (w0 w wc:World) (g g2 g3 gb:Nat) (b:List Int) (p:Int) (c:Nat) (cs:List S79):Prop where
 I:IsS149 w0 wc g b p
 B:Below w0.heap.size w0 wc
 K:KeepBut w wc g none
 B2:wc.heap[g2]? =some (.cells #[.slice none 0 0] 29 (0,0))
 B3:wc.heap[g3]? =some (.cells #[.slice (some ⟨gb,0,none⟩) cs.length c] 29 (0,0))
 R:Kd.S k79 79 wc w.heap.size (fun _=>True) (.slice (some ⟨gb,0,none⟩) cs.length c) cs
section
variable {w0 w wc w':World} {g g2 g3 gb c:Nat} {b:List Int} {p p':Int} {cs:List S79}
theorem Cst.ne(h:Cst w0 w wc g g2 g3 gb b p c cs):gb≠g∧g2≠g∧g3≠g∧w.heap.size≤gb∧gb≠g2∧gb≠g3:=by
 obtain⟨A0,c0,hb,_,_⟩:=h.I;have hS:=h.R;obtain⟨cells,hg⟩:=Kd.S_typed hS gb (by simp[Value.ownBlock]);exact⟨blk_ne hg hb (by decide),blk_ne h.B2 hb (by decide),blk_ne h.B3 hb (by decide),Kd.S_base hS gb (by simp[Value.ownBlock]),blk_ne hg h.B2 (by decide),blk_ne hg h.B3 (by decide)⟩
theorem Cst.call(h:Cst w0 w wc g g2 g3 gb b p c cs)(hi:IsS149 w0 w' g b p')(hb:Below w0.heap.size w0 w')(hk:KeepBut wc w' g none):Cst w0 w w' g g2 g3 gb b p' c cs:=
 ⟨hi,hb,h.K.trans hk (.inl rfl),KeepBut.blk hk h.B2 h.ne.2.1 (by simp),KeepBut.blk hk h.B3 h.ne.2.2.1 (by simp),Kd.S_mono (Kd.S_keep (IsS149.apartS h.I h.R (by decide)) hk (fun _ h=>h.2)) (fun _ h=>h.1)⟩
theorem Cst.below(h:Cst w0 w wc g g2 g3 gb b p c cs)(hb:Below wc.heap.size wc w'):Cst w0 w w' g g2 g3 gb b p c cs:=
 ⟨h.I.below hb,below_step h.B hb,h.K.trans (KeepBut.of_below hb g none) (.inl rfl),blk_below h.B2 hb,blk_below h.B3 hb,Kd.S_below h.R hb⟩
theorem Cst.grown{row:Option Nat}{cs':List S79}(h:Cst w0 w wc g g2 g3 gb b p c cs)(hg:wc.grownBy w' row)(hr:∀k,row=some k→w.heap.size≤k∧k≠g∧k≠g2∧k≠g3)(hw:w0.heap.size≤w.heap.size)(hS:Kd.S k79 79 w' w.heap.size (fun _=>True) (.slice (some ⟨gb,0,none⟩) cs'.length c) cs')(hl:cs'.length=cs.length):Cst w0 w w' g g2 g3 gb b p c cs':=
 ⟨h.I.grown hg (fun e=>(hr g e.symm).2.1 rfl),h.B.grown hg h.B.size (fun k e=>Nat.le_trans hw (hr k e).1),by
   cases row with
   |none=>exact h.K.trans (KeepBut.of_grown hg g) (.inl rfl)
   |some k=>exact h.K.trans (KeepBut.of_grown hg g) (.inr ⟨k,rfl,(hr k rfl).1⟩),blk_grown h.B2 hg (fun e=>(hr g2 e.symm).2.2.1 rfl),by rw[hl];exact blk_grown h.B3 hg (fun e=>(hr g3 e.symm).2.2.2 rfl),hS⟩
theorem Cst.elem(h:Cst w0 w wc g g2 g3 gb b p c cs)(s:Int)(h0:0≤s)(h1:s<cs.length):∃Aa ca u0 u2,wc.cell? ⟨gb,s.toNat*3,none⟩=some u0∧wc.cell? ⟨gb,s.toNat*3+1,none⟩=some (.slice Aa (armsAt cs s).length ca)∧wc.cell? ⟨gb,s.toNat*3+2,none⟩=some u2∧(∀j,wc.frozen? ⟨gb,s.toNat*3+j,none⟩=false)∧Kd.R k81 81 wc w.heap.size (fun k=>k≠gb∧k≠g∧k≠g2∧k≠g3) (.slice Aa (armsAt cs s).length ca) (armsAt cs s):=by
 obtain⟨oki,ce,hcl,hM,hcc,hfr,hoki,hH⟩:=Kd.S_elem h.R z79 s h0 h1;obtain⟨v1,rfl,hR⟩:=k79_openM hM;obtain⟨Aa,ca,rfl⟩:=Kd.R_slice hR;refine⟨Aa,ca,_,_,hcc 0 _ rfl,hcc 1 _ rfl,hcc 2 _ rfl,hfr,?_⟩;obtain⟨A0,c0,hb,_,_⟩:=h.I;exact Kd.R_mono (Kd.R_types (Kd.R_types (Kd.R_types hR hb (by decide)) h.B2 (by decide)) h.B3 (by decide)) (fun k hk=>⟨(hoki k hk.1.1.1).2,hk.1.1.2,hk.1.2,hk.2⟩)
theorem Cst.putE(h:Cst w0 w wc g g2 g3 gb b p c cs)(hw:w0.heap.size≤w.heap.size)(s:Int)(h0:0≤s)(h1:s<cs.length)(x:Int):Cst w0 w (wc.setCell ⟨gb,s.toNat*3+2,none⟩ (.int .i64 x)) g g2 g3 gb b p c (P.putE cs s x):=by
 obtain⟨oki,ce,hcl,hM,hcc,hfr,hoki,hH⟩:=Kd.S_elem h.R z79 s h0 h1;obtain⟨v1,rfl,hR⟩:=k79_openM hM;have hs:=H_put hH h0 h1 2 (.int .i64 x) (by decide) rfl;have hl:(P.putE cs s x).length=cs.length:=List.length_set ..;refine h.grown hs.2 (fun k e=>?_) hw ?_ hl
 ·injection e with e
  subst e;exact⟨h.ne.2.2.2.1,h.ne.1,h.ne.2.2.2.2.1,h.ne.2.2.2.2.2⟩
 ·rw[hl]
  exact Kd.H_back hs.1 (k79_mkM _ _ oki (⟨_,_,x⟩:S79) (Kd.R_far hR (fun k hk=>(hoki k hk).2) _)) (fun _ h=>h)
theorem Cst.putA(h:Cst w0 w wc g g2 g3 gb b p c cs)(hw:w0.heap.size≤w.heap.size)(s:Int)(h0:0≤s)(h1:s<cs.length)(x:Int):Cst w0 w (wc.setCell ⟨gb,s.toNat*3,none⟩ (.int .i64 x)) g g2 g3 gb b p c (P.putA cs s x):=by
 obtain⟨oki,ce,hcl,hM,hcc,hfr,hoki,hH⟩:=Kd.S_elem h.R z79 s h0 h1;obtain⟨v1,rfl,hR⟩:=k79_openM hM;have hs:=H_put hH h0 h1 0 (.int .i64 x) (by decide) rfl;have hl:(P.putA cs s x).length=cs.length:=List.length_set ..;refine h.grown hs.2 (fun k e=>?_) hw ?_ hl
 ·injection e with e
  subst e;exact⟨h.ne.2.2.2.1,h.ne.1,h.ne.2.2.2.2.1,h.ne.2.2.2.2.2⟩
 ·rw[hl]
  exact Kd.H_back hs.1 (k79_mkM _ _ oki (⟨x,_,_⟩:S79) (Kd.R_far hR (fun k hk=>(hoki k hk).2) _)) (fun _ h=>h)
theorem Cst.putM{w1:World}{Aa:Option Addr}{ca:Nat}{v9:Value}{m:List S81}{P9:Nat→Prop}(h:Cst w0 w wc g g2 g3 gb b p c cs)(hw:w0.heap.size≤w.heap.size)(s:Int)(h0:0≤s)(h1:s<cs.length)(hx:wc.cell? ⟨gb,s.toNat*3+1,none⟩=some (.slice Aa (armsAt cs s).length ca))
   (hgr:wc.grownBy w1 (Value.slice Aa (armsAt cs s).length ca).ownBlock)(ho:Kd.R k81 81 w1 w.heap.size P9 v9 m)(hat:v9.ownBlock=(Value.slice Aa (armsAt cs s).length ca).ownBlock∨∃q,v9.ownBlock=some q∧wc.heap.size≤q)(hv:v9.oneCell'=true):
   Cst w0 w (w1.setCell ⟨gb,s.toNat*3+1,none⟩ v9) g g2 g3 gb b p c (P.putM cs s m):=by
 obtain⟨Aa2,ca2,_,_,_,hx2,_,_,hR0⟩:=h.elem s h0 h1;obtain⟨oki,ce,hcl,hM,hcc,hfr,hoki,hH⟩:=Kd.S_elem h.R z79 s h0 h1;obtain⟨v1,rfl,hR⟩:=k79_openM hM;have e1:=(hcc 1 _ rfl).symm.trans hx;have e1:=Option.some.inj e1;subst e1;have e2:=Option.some.inj (hx2.symm.trans hx);rw[e2]at hR0;have hlt:=blk_lt (Kd.S_typed h.R gb (by simp[Value.ownBlock])).choose_spec;have hH2:=Kd.H_grown (Kd.H_widen hH) hgr (fun k e=> .inl (hR.1 k e));have hs:=H_put hH2 h0 h1 1 v9 (by decide) hv;have hl:(P.putM cs s m).length=cs.length:=List.length_set ..;have hgb:∀k,v9.ownBlock=some k→k≠gb:=fun k e=>by
  rcases hat with e3| ⟨q,e3,hq⟩
  ·exact(hoki k (hR.1 k (e3 ▸ e))).2
  ·rw[e]at e3
   injection e3 with e3
   omega
 have hRn:∀k,(Value.slice Aa (armsAt cs s).length ca).ownBlock=some k→w.heap.size≤k∧k≠g∧k≠g2∧k≠g3:=fun k e=>⟨Kd.R_base hR0 k e,(hR0.1 k e).2.1,(hR0.1 k e).2.2.1,(hR0.1 k e).2.2.2⟩
 have hgbn:some gb≠(Value.slice Aa (armsAt cs s).length ca).ownBlock:=fun e=>(hR0.1 gb e.symm).1 rfl
 refine⟨(h.I.grown hgr (fun e=>(hRn g e.symm).2.1 rfl)).far (Ne.symm h.ne.1) _,below_set (h.B.grown hgr h.B.size (fun k e=>Nat.le_trans hw (hRn k e).1)) (Nat.le_trans hw h.ne.2.2.2.1),?_,blk_far (blk_grown h.B2 hgr (fun e=>(hRn g2 e.symm).2.2.1 rfl)) (Ne.symm h.ne.2.2.2.2.1) _,?_,?_⟩
 ·refine keep_far ?_ h.ne.2.2.2.1 _
  cases hrow:(Value.slice Aa (armsAt cs s).length ca).ownBlock with
  |none=>rw[hrow]at hgr;exact h.K.trans (KeepBut.of_grown hgr g) (.inl rfl)
  |some k=>rw[hrow]at hgr;exact h.K.trans (KeepBut.of_grown hgr g) (.inr ⟨k,rfl,(hRn k hrow).1⟩)
 ·rw[hl]
  exact blk_far (blk_grown h.B3 hgr (fun e=>(hRn g3 e.symm).2.2.2 rfl)) (Ne.symm h.ne.2.2.2.2.2) _
 ·rw[hl]
  refine Kd.H_back hs.1 (k79_mkM _ _ (fun k=>some k=v9.ownBlock) (⟨_,m,_⟩:S79) (Kd.R_far (Kd.R_tight rfl ho) (fun k hk=>hgb k hk.symm) _)) (fun k hk=>?_);rcases hat with e3| ⟨q,e3,hq⟩
  ·exact .inl (hR.1 k (e3 ▸ hk.symm))
  ·rw[←hk]at e3
   injection e3 with e3
   exact .inr ⟨trivial,by omega⟩
theorem Cst.setM{Aa:Option Addr}{ca:Nat}(h:Cst w0 w wc g g2 g3 gb b p c cs)(hw:w0.heap.size≤w.heap.size)(s:Int)(h0:0≤s)(h1:s<cs.length)(hx:wc.cell? ⟨gb,s.toNat*3+1,none⟩=some (.slice Aa (armsAt cs s).length ca))(hp:0<(armsAt cs s).length)(x:Int):
   ∃ga u,Aa=some ⟨ga,0,none⟩∧wc.cell? ⟨ga,2,none⟩=some u∧wc.frozen? ⟨ga,2,none⟩=false∧Cst w0 w (wc.setCell ⟨ga,2,none⟩ (.int .i64 x)) g g2 g3 gb b p c (P.putM cs s ((armsAt cs s).set 0 ⟨((armsAt cs s).getD 0 z81).f0,((armsAt cs s).getD 0 z81).f1,x⟩)):=by
 obtain⟨Aa2,ca2,_,_,_,hx2,_,_,hR0⟩:=h.elem s h0 h1;have e2:=Option.some.inj (hx2.symm.trans hx);rw[e2]at hR0;obtain⟨ga,cap,hv,_,_,_⟩:=Kd.R_form hR0 hp;have hA:Aa=some ⟨ga,0,none⟩:=by injection hv
 subst hA;obtain⟨oki,ce,hcl,hM,hcc,hfr,hoki,hH⟩:=Kd.S_elem h.R z79 s h0 h1;obtain⟨v1,rfl,hR⟩:=k79_openM hM;have e1:=Option.some.inj ((hcc 1 _ rfl).symm.trans hx);subst e1;obtain⟨cc,hcl2,hM2,hcc2,hfr2⟩:=Kd.R_elem hR z81 0 (by omega) (by omega);obtain rfl:=k81_openM hM2;have hseg:=Kd.R_seg hR 0 (by omega) (by omega) (seg:=[.int .i64 x]) (j:=2) hcl2 hcc2 (show 2+1≤3 by decide) (x':=(⟨((armsAt cs s).getD 0 z81).f0,((armsAt cs s).getD 0 z81).f1,x⟩:S81)) (k81_mkM wc w.heap.size (fun k=>oki k∧k≠ga) _) (fun _ hk=>hk);have hl:(P.putM cs s ((armsAt cs s).set 0 ⟨((armsAt cs s).getD 0 z81).f0,((armsAt cs s).getD 0 z81).f1,x⟩)).length=cs.length:=List.length_set ..;have hga:=hR0.1 ga (by simp[Value.ownBlock]);have hgk:=Kd.R_base hR0 ga (by simp[Value.ownBlock]);refine⟨ga,_,rfl,hcc2 2 _ rfl,hfr2 2,h.grown hseg.2 (fun k e=>?_) hw ?_ hl⟩
 ·injection e with e
  subst e;exact⟨hgk,hga.2.1,hga.2.2.1,hga.2.2.2⟩
 ·rw[hl]
  exact Kd.H_back (Kd.H_grown hH hseg.2 (fun k e=>by injection e with e;subst e;exact hR.1 _ (by simp[Value.ownBlock]))) (k79_mkM _ _ oki (⟨_,_,_⟩:S79) hseg.1) (fun _ h=>h)
end
theorem keep_cell{w w':World}{g:Nat}{q:Addr}{u:Value}(hk:KeepBut w w' g none)(h:w.cell? q=some u)(hq:q.block≠g):w'.cell? q=some u:=
 (World.cell?_of_block (hk.2 q.block (World.block_lt_of_cell? _ _ h) hq (by simp))).trans h
theorem grown_cell{w w':World}{row:Option Nat}{q:Addr}{u:Value}(hk:w.grownBy w' row)(h:w.cell? q=some u)(hq:some q.block≠row):w'.cell? q=some u:=
 (World.cell?_of_block (hk.block q.block (World.block_lt_of_cell? _ _ h) hq)).trans h
theorem Cst.at_{w0 w wc:World}{g g2 g3 gb c ca:Nat}{Aa:Option Addr}{b:List Int}{p s:Int}{cs:List S79}(h:Cst w0 w wc g g2 g3 gb b p c cs)(h0:0≤s)(h1:s<cs.length)(hx:wc.cell? ⟨gb,s.toNat*3+1,none⟩=some (.slice Aa (armsAt cs s).length ca)):Kd.R k81 81 wc w.heap.size (fun k=>k≠gb∧k≠g∧k≠g2∧k≠g3) (.slice Aa (armsAt cs s).length ca) (armsAt cs s):=by
 obtain⟨A2,c2,_,_,_,hx2,_,_,hR⟩:=h.elem s h0 h1;have e:=Option.some.inj (hx2.symm.trans hx);rw[e]at hR;exact hR
theorem code_hand(k:Nat)(g:Nat)(b:List Int)(p:Int)(r:List S79)(p':Int)(w0 w:World)(hI:IsS149 w0 w g b p)(hB:Below w0.heap.size w0 w)(h:codeF k b p=some (r,p')):
    Calls Try.prog 68 #[.pointer (some ⟨g,0,none⟩)] w fun e w'=>∃v0_:Value,e= .returned (.agg #[v0_])∧Kd.S k79 79 w' w.heap.size (fun _=>True) v0_ r∧IsS149 w0 w' g b p'∧Below w0.heap.size w0 w'∧KeepBut w w' g none:=by
  unfold codeF at h;obtain⟨⟨d0,d1,d2,p1⟩,E1,Ha⟩:=ob_ h;obtain⟨⟨cs,yes⟩,E2,Hb⟩:=ob_ Ha;obtain⟨⟨s,p2⟩,E3,Hc⟩:=ob_ Hb;by_cases hs:0≤s∧s<(cs.length:Int);rotate_left
  ·replace Hc:=(iN hs).symm.trans Hc
   exact absurd Hc (by simp)
  replace Hc:=(iP hs).symm.trans Hc;obtain⟨⟨o,p3⟩,E4,Hd⟩:=ob_ Hc;have H:=q_ Hd;clear Ha Hb Hc Hd;have HW0:=q_ hB.size;have HI:=q_ hI;have HB:=q_ hB;have HK:=q_ (KeepBut.refl w g none);have HS:=q_ hs;clear hI hB h hs;have T2:J0 True:=⟨trivial⟩;have T3:J0 True:=⟨trivial⟩;go_enter Try.func68,Try.ntmps68;go_upto_region 2 with(first
   | ((with_reducible refine gate_dst (N:=2) rfl ?_);clear T2;refine bx_ 2 #[.slice none 0 0] 29 ?_;intro g2 hg w2 hbox hbx;have B2:=q_ hbox;have N2:J0 (g2≠g):=⟨by rw[hg];exact Nat.ne_of_gt (IsS149.lt HI.o)⟩;have G2:J0 (w.heap.size≤g2):=⟨by rw[hg];exact Nat.le_refl _⟩;replace HI:=q_ (HI.o.below hbx);replace HB:=q_ (below_step HB.o hbx);replace HK:=q_ (HK.o.trans (KeepBut.of_below hbx g none) (.inl rfl));clear hbx hbox hg)
   | (go_at_call 107;(with_reducible refine(spec_l1Rd_dfa.calls k g b p d0 d1 d2 p1 w0 _ HI.o HB.o E1.o).mono ?_);rintro e w3 ⟨v0,v1,v2,rfl,h0,h1,h2,hi,hb,hk⟩;have R0:=q_ h0;have R1:=q_ h1;have R2:=q_ h2;replace B2:=q_ (KeepBut.blk hk B2.o N2.o (by simp));replace HI:=q_ hi;replace HB:=q_ hb;replace HK:=q_ (HK.o.trans hk (.inl rfl));clear h0 h1 h2 hi hb hk;obtain⟨A0,c0,rfl⟩:=Kd.R_slice R0.o;obtain⟨A1,c1,rfl⟩:=Kd.N_slice R1.o;obtain⟨A2,c2,rfl⟩:=Kd.R_slice R2.o)
   | (go_at_call 9;(with_reducible refine(spec_GenCode.calls k A0 c0 d0 A1 c1 d1 A2 c2 d2 cs yes _ (C_of_R R0.o) (L_of_R R0.o) (Kd.N_reads' R1.o).2.2 (Kd.N_reads' R1.o).2.1 (C_of_R R2.o) (L_of_R R2.o) E2.o).mono ?_);rintro e w4 ⟨v4,rfl,ho,hb⟩;have RC:=q_ (Kd.S_lower (Kd.S_mono ho (ok':=fun _=>True) (fun _ _=>trivial)) (keep_size HK.o));replace B2:=lb_ B2 hb;replace HI:=q_ (HI.o.below hb);replace HB:=q_ (below_step HB.o hb);replace HK:=q_ (HK.o.trans (KeepBut.of_below hb g none) (.inl rfl));clear hb ho R0 R1 R2;obtain⟨A4,c4,rfl⟩:=Kd.S_slice RC.o)
   | ((with_reducible refine gate_dst (N:=3) rfl ?_);clear T3;refine bx_ 3 #[.slice none 0 0] 29 ?_;intro g3 hg w5 hbox hbx;have B3:=q_ hbox;have N3:J0 (g3≠g):=⟨by rw[hg];exact Nat.ne_of_gt (IsS149.lt HI.o)⟩;have G3:J0 (w.heap.size≤g3):=⟨by rw[hg];exact keep_size HK.o⟩;have N23:=nl_ hg B2;replace B2:=lb_ B2 hbx;replace HI:=q_ (HI.o.below hbx);replace HB:=q_ (below_step HB.o hbx);replace RC:=q_ (Kd.S_below RC.o hbx);replace HK:=q_ (HK.o.trans (KeepBut.of_below hbx g none) (.inl rfl));clear hbx hbox hg;obtain⟨hy0,hf0⟩:=d1_ B3))
  have hlen:0<cs.length:=by have:=HS.o;omega
  obtain⟨gb,cap,hv,_⟩:=Kd.R_form (Kd.S_R RC.o) hlen;obtain rfl:A4=some ⟨gb,0,none⟩:=by injection hv
  clear hv hlen;have HC:J0 (Cst w0 w (w5.setCell ⟨g3,0,none⟩ (.slice (some ⟨gb,0,none⟩) cs.length c4)) g g2 g3 gb b p1 c4 cs):=⟨⟨HI.o.far N3.o.symm _,below_set HB.o (Nat.le_trans HW0.o G3.o),keep_far HK.o G3.o _,blk_far B2.o N23.o _,blk_put B3.o 0 _ rfl,Kd.S_set RC.o B3.o (by decide) 0 _⟩⟩;clear B2 B3 HI HB HK RC N2 N3 G3 N23 hy0 hf0 E1 E2;generalize w5.setCell ⟨g3,0,none⟩ (.slice (some ⟨gb,0,none⟩) cs.length c4)=w6 at HC ⊢;obtain⟨hy0,hf0⟩:=d1_ (q_ HC.o.B3)
  go_upto_block 0 with(first
   | (go_at_call 66;(with_reducible refine(spec_l1Rd_below.calls g b p1 (cs.length:Int) s p2 w0 _ HC.o.I HC.o.B E3.o).mono ?_);rintro e w7 ⟨rfl,hi,hb,hk⟩;replace HC:=q_ (HC.o.call hi hb hk);clear hi hb hk E3 hy0 hf0)
   | (go_at_call 66;(with_reducible refine(spec_l1Rd_below.calls g b p2 24 o p3 w0 _ HC.o.I HC.o.B E4.o).mono ?_);rintro e w8 ⟨rfl,hi,hb,hk⟩;replace HC:=q_ (HC.o.call hi hb hk);clear hi hb hk E4))
  go_cut [] (fun wc=>J0 (Cst w0 w wc g g2 g3 gb b p' c4 r))
  case first=>
    have hs0:=HS.o.1;have hs1:=HS.o.2;have ps0:=eq_true hs0;have ps1:=eq_true hs1;by_cases h0:o=0
    · subst h0
      obtain⟨⟨x,p4⟩,E5,H5⟩:=ob_ ((iP rfl).symm.trans H.o);obtain⟨rfl,rfl⟩:P.putE cs s x=r∧p4=p':=by simpa using H5
      clear H H5
      go_wp2_with fail
      replace HC:=q_ (HC.o.below (below_drew (Below.refl _ _)));refine start_ (n:=12) (S:=fun w'=>w'.cell? ⟨g3,0,none⟩=some (.slice (some ⟨gb,0,none⟩) cs.length c4)) (ds:=[11]) (bb 12 0) (by kernel_rfl) rfl rfl ((blk_cell HC.o.B3 0).trans rfl) (fun hS=>?_);generalize w8.drew=W1 at HC hS ⊢;refine pk_ 0 21 1 ?_;refine pk_ 2 23 5 ?_;refine pk_ 3 24 13 ?_;refine pk_ 4 25 29 ?_;refine tk_ 1 22 31 hS ?_;refine tk_ 5 26 63 hS ?_;refine pk_ 6 27 127 ?_;refine pk_ 7 28 255 ?_;refine one_ (i:=8) (N:=some 29) (bb 12 511) rfl rfl (by kernel_rfl) (by decide) (fun K hK=>?_);refine gs_ Try.func56 #[.pointer (some ⟨g,0,none⟩), .int .i64 0, .int .i64 (wrap64 ((cs.length:Int)-1))] ?_
      with_reducible refine(spec_l1Rd_off.calls k g b p3 0 (wrap64 ((cs.length:Int)-1)) x p4 w0 _ HC.o.I HC.o.B E5.o).mono ?_
      rintro e W2 ⟨rfl,hi,hb,hk⟩;refine⟨_,rfl,?_⟩;replace HC:=q_ (HC.o.call hi hb hk);clear hi hb hk hS;refine hK.out _ _ ((blk_cell HC.o.B3 0).trans rfl) (fun hS=>?_);clear hK K;refine no_ (some 29) ?_;obtain⟨Aa,ca,u0,u2,hx0,hx1,hx2,hfr,hR⟩:=HC.o.elem s hs0 hs1;refine pk_ 9 30 1023 ?_;refine pk_ 10 31 2047 ?_;refine last_ (i:=11) (N:=none) (bb 12 4095) rfl rfl (by kernel_rfl) (by decide) (fun K hK=>?_);refine skip_ (w1:=?_) (by rfl) rfl ?_ ?_;rotate_left
      · have hf2:=hfr 2
        go_simp;rfl
      refine hK.out _ _ ?_;clear hK K;refine done_ (by kernel_rfl) ?_;replace HC:=q_ (HC.o.putE HW0.o s hs0 hs1 x)
      go_wp2_with fail
      go_meet
      case rel=>exact HC
    have hz0:(o==0)=false:=beq_eq_false_iff_ne.mpr h0;replace H:=q_ ((iN h0).symm.trans H.o);clear h0;by_cases h1:o=1
    · subst h1
      obtain⟨⟨x,p4⟩,E5,H5⟩:=ob_ ((iP rfl).symm.trans H.o);obtain⟨rfl,rfl⟩:P.putA cs s x=r∧p4=p':=by simpa using H5
      clear H H5
      go_wp2_with fail
      replace HC:=q_ (HC.o.below (below_drew (Below.refl _ _)));refine start_ (n:=8) (S:=fun w'=>w'.cell? ⟨g3,0,none⟩=some (.slice (some ⟨gb,0,none⟩) cs.length c4)) (ds:=[7]) (bb 8 0) (by kernel_rfl) rfl rfl ((blk_cell HC.o.B3 0).trans rfl) (fun hS=>?_);generalize w8.drew=W1 at HC hS ⊢;refine pk_ 0 34 1 ?_;refine pk_ 2 36 5 ?_;refine pk_ 3 37 13 ?_;refine tk_ 1 35 15 hS ?_;refine one_ (i:=4) (N:=some 38) (bb 8 31) rfl rfl (by kernel_rfl) (by decide) (fun K hK=>?_);refine gs_ Try.func56 #[.pointer (some ⟨g,0,none⟩), .int .i64 (-1), .int .i64 39] ?_
      with_reducible refine(spec_l1Rd_off.calls k g b p3 (-1) 39 x p4 w0 _ HC.o.I HC.o.B E5.o).mono ?_
      rintro e W2 ⟨rfl,hi,hb,hk⟩;refine⟨_,rfl,?_⟩;replace HC:=q_ (HC.o.call hi hb hk);clear hi hb hk hS;refine hK.out _ _ ((blk_cell HC.o.B3 0).trans rfl) (fun hS=>?_);clear hK K;refine no_ (some 38) ?_;obtain⟨Aa,ca,u0,u2,hx0,hx1,hx2,hfr,hR⟩:=HC.o.elem s hs0 hs1;refine pk_ 5 39 63 ?_;refine pk_ 6 40 127 ?_;refine last_ (i:=7) (N:=none) (bb 8 255) rfl rfl (by kernel_rfl) (by decide) (fun K hK=>?_);refine skip_ (w1:=?_) (by rfl) rfl ?_ ?_;rotate_left
      · have hf2:=hfr 0
        rw[Nat.add_zero]at hf2;go_simp;rfl
      refine hK.out _ _ ?_;clear hK K;refine done_ (by kernel_rfl) ?_;replace HC:=q_ (HC.o.putA HW0.o s hs0 hs1 x)
      go_wp2_with fail
      go_meet
      case rel=>exact HC
    have hz1:(o==1)=false:=beq_eq_false_iff_ne.mpr h1;replace H:=q_ ((iN h1).symm.trans H.o);clear h1;by_cases h2:o=2
    · subst h2
      obtain⟨⟨x1,p4⟩,E5,H5⟩:=ob_ ((iP rfl).symm.trans H.o);obtain⟨⟨x2,p5⟩,E6,H6⟩:=ob_ H5;obtain⟨⟨x3,p6⟩,E7,H7⟩:=ob_ H6;by_cases hl:(armsAt cs s).length≤100000;rotate_left
      · replace H7:=(iN hl).symm.trans H7
        exact absurd H7 (by simp)
      replace H7:=(iP hl).symm.trans H7;obtain⟨rfl,rfl⟩:P.putM cs s (armsAt cs s++ [⟨x1,x2,x3⟩])=r∧p6=p':=by simpa using H7
      clear H H5 H6 H7
      go_wp2_with fail
      replace HC:=q_ (HC.o.below (below_drew (Below.refl _ _)));obtain⟨Aa,ca,u0,u2,hx0,hx1,hx2,hfr,hR⟩:=HC.o.elem s hs0 hs1;clear u0 u2 hx0 hx2 hfr hR;refine start_ (n:=24) (S:=fun w'=>w'.cell? ⟨g3,0,none⟩=some (.slice (some ⟨gb,0,none⟩) cs.length c4)∧w'.cell? ⟨gb,s.toNat*3+1,none⟩=some (.slice Aa (armsAt cs s).length ca)) (ds:=[23]) (bb 24 0) (by kernel_rfl) rfl rfl ⟨(blk_cell HC.o.B3 0).trans rfl,hx1⟩ (fun hS=>?_);generalize w8.drew=W1 at HC hS ⊢;refine pk_ 0 43 1 ?_;refine pk_ 2 45 5 ?_;refine pk_ 3 46 13 ?_;refine pk_ 5 48 45 ?_;refine pk_ 9 52 557 ?_;refine pk_ 11 54 2605 ?_;refine pk_ 13 56 10797 ?_;refine pk_ 14 57 27181 ?_;refine tk_ 1 44 27183 hS ?_;refine tk_ 4 47 27199 hS ?_;refine pk_ 6 49 27263 ?_;refine pk_ 7 50 27391 ?_;refine tk_ 8 51 27647 hS ?_;refine tk_ 15 58 60415 hS ?_;refine pk_ 16 59 125951 ?_;refine one_ (i:=10) (N:=some 53) (bb 24 126975) rfl rfl (by kernel_rfl) (by decide) (fun K hK=>?_);refine gs_ Try.func56 #[.pointer (some ⟨g,0,none⟩),Value.int .i64 0, .int .i64 255] ?_
      with_reducible refine(spec_l1Rd_off.calls k g b p3 0 255 x1 p4 w0 _ HC.o.I HC.o.B E5.o).mono ?_
      rintro e W53 ⟨rfl,hi,hb,hk⟩;refine⟨_,rfl,?_⟩;have hxk:=keep_cell hk hS.2 HC.o.ne.1;replace HC:=q_ (HC.o.call hi hb hk);clear hi hb hk hS;refine hK.out _ _ ⟨(blk_cell HC.o.B3 0).trans rfl,hxk⟩ (fun hS=>?_);clear hK K hxk;refine no_ (some 53) ?_;refine one_ (i:=12) (N:=some 55) (bb 24 131071) rfl rfl (by kernel_rfl) (by decide) (fun K hK=>?_);refine gs_ Try.func56 #[.pointer (some ⟨g,0,none⟩),Value.int .i64 0, .int .i64 255] ?_
      with_reducible refine(spec_l1Rd_off.calls k g b p4 0 255 x2 p5 w0 _ HC.o.I HC.o.B E6.o).mono ?_
      rintro e W55 ⟨rfl,hi,hb,hk⟩;refine⟨_,rfl,?_⟩;have hxk:=keep_cell hk hS.2 HC.o.ne.1;replace HC:=q_ (HC.o.call hi hb hk);clear hi hb hk hS;refine hK.out _ _ ⟨(blk_cell HC.o.B3 0).trans rfl,hxk⟩ (fun hS=>?_);clear hK K hxk;refine no_ (some 55) ?_;refine one_ (i:=17) (N:=some 60) (bb 24 262143) rfl rfl (by kernel_rfl) (by decide) (fun K hK=>?_);refine gs_ Try.func66 #[.pointer (some ⟨g,0,none⟩), .int .i64 (cs.length:Int)] ?_
      with_reducible refine(spec_l1Rd_below.calls g b p5 (cs.length:Int) x3 p6 w0 _ HC.o.I HC.o.B E7.o).mono ?_
      rintro e W60 ⟨rfl,hi,hb,hk⟩;refine⟨_,rfl,?_⟩;have hxk:=keep_cell hk hS.2 HC.o.ne.1;replace HC:=q_ (HC.o.call hi hb hk);clear hi hb hk hS;refine hK.out _ _ ⟨(blk_cell HC.o.B3 0).trans rfl,hxk⟩ (fun hS=>?_);clear hK K hxk;refine no_ (some 60) ?_;refine pk_ 18 61 524287 ?_;refine one_ (i:=19) (N:=some 62) (bb 24 1048575) rfl rfl (by kernel_rfl) (by decide) (fun K hK=>?_);refine value_ (w1:=?_) (v:=?_) (by rfl) rfl ?_ ?_;rotate_left 2
      · go_simp
        constructor
        ·rfl
        ·rfl
      have hb:∀o,Below W60.heap.size W60 (W60.alloc o):=fun o=>below_alloc (Below.refl _ _) o
      have hS0:=hS;refine hK.out _ _ ⟨mv_ (hb _) hS.1,mv_ (hb _) hS.2⟩ (fun hS=>?_);clear hK K hb;refine no_ (some 62) ?_;have hR:=HC.o.at_ hs0 hs1 hS0.2;refine one_ (i:=20) (N:=some 63) (bb 24 2097151) rfl rfl (by kernel_rfl) (by decide) (fun K hK=>?_);refine Kd.R_append_step k81 (w0:=W60) w.heap.size (by rfl) (.tmp 51) (.tmp 62) 77 81 (.agg #[(.int .i64 0),(.int .i64 0),(.int .i64 0)]) 24 rfl Try.underlying77 infoArm_ rfl (by decide) (by omega) (.slice Aa (armsAt cs s).length ca) (armsAt cs s) (⟨x1,x2,x3⟩:S81) [.int .i64 x1, .int .i64 x2, .int .i64 x3] (fun _=>True) (fun _=>False) rfl rfl ?aP ?aQ ?aF (Kd.R_mono hR (fun _ _=>trivial)) (Below.refl _ _) (keep_size HC.o.K) ?aL ?_;(case aP=>exact k81_mkM _ _ _ (⟨x1,x2,x3⟩:S81));(case aQ=>exact fun _ hk=>hk.elim);(case aF=>exact fun _ _=>trivial);(case aL=>omega);intro v9 w9 ho hb hgr hat;have hgb:some gb≠(Value.slice Aa (armsAt cs s).length ca).ownBlock:=fun e=>(hR.1 gb e.symm).1 rfl
      have hg3:some g3≠(Value.slice Aa (armsAt cs s).length ca).ownBlock:=fun e=>(hR.1 g3 e.symm).2.2.2 rfl
      have hxk:=grown_cell hgr hS0.2 hgb;have hyk:=grown_cell hgr hS0.1 hg3;obtain⟨cells,hgc⟩:=Kd.S_typed HC.o.R gb (by simp[Value.ownBlock]);have hfb:=fun j=>blk_frozen (blk_grown hgc hgr hgb) j
      replace HC:=q_ (HC.o.putM HW0.o s hs0 hs1 hS0.2 hgr ho hat (Kd.R_val ho).2);obtain⟨A9,c9,rfl⟩:=Kd.R_slice ho;have hln:(armsAt cs s++ [(⟨x1,x2,x3⟩:S81)]).length=(armsAt cs s).length+1:=by simp
      rw[hln]at HC;refine hK.out _ _ ⟨hyk,hxk⟩ (fun hS=>?_);clear hK K hS0 hgb hg3 hR hgc hb hgr hat;refine no_ (some 63) ?_;refine pk_ 21 64 4194303 ?_;refine pk_ 22 65 8388607 ?_;refine last_ (i:=23) (N:=none) (bb 24 16777215) rfl rfl (by kernel_rfl) (by decide) (fun K hK=>?_);refine skip_ (w1:=?_) (by rfl) rfl ?_ ?_;rotate_left
      · have hf2:=hfb (s.toNat*3+1)
        go_simp;rfl
      refine hK.out _ _ ?_;clear hK K;refine done_ (by kernel_rfl) ?_
      go_wp2_with fail
      go_meet
      case rel=>exact HC
    have hz2:(o==2)=false:=beq_eq_false_iff_ne.mpr h2;replace H:=q_ ((iN h2).symm.trans H.o);clear h2;by_cases h3:o=3
    · subst h3
      replace H:=q_ ((iP rfl).symm.trans H.o);obtain⟨Aa,ca,u0,u2,hx0,hx1,hx2,hfr,hR⟩:=HC.o.elem s hs0 hs1;obtain⟨hy0,hf0⟩:=d1_ (q_ HC.o.B3);clear u0 u2 hx0 hx2 hfr hR;by_cases hp:0<(armsAt cs s).length
      · obtain⟨⟨x,p4⟩,E5,H5⟩:=ob_ ((iP hp).symm.trans H.o)
        obtain⟨rfl,rfl⟩:P.putM cs s ((armsAt cs s).set 0 ⟨((armsAt cs s).getD 0 z81).f0,((armsAt cs s).getD 0 z81).f1,x⟩)=r∧p4=p':=by simpa using H5
        clear H H5;have hlb:decide (0<((armsAt cs s).length:Int))=true:=decide_eq_true (by omega);have hlc:decide (0<(armsAt cs s).length)=true:=decide_eq_true hp;have hq1:(0:Int)<((armsAt cs s).length:Int):=by omega
        have hq2:=eq_true hq1;have hq3:=eq_true hp
        go_wp2_with fail
        clear hy0 hf0;replace HC:=q_ (HC.o.below (below_drew (Below.refl _ _)));refine start_ (n:=15) (S:=fun w'=>w'.cell? ⟨g3,0,none⟩=some (.slice (some ⟨gb,0,none⟩) cs.length c4)∧w'.cell? ⟨gb,s.toNat*3+1,none⟩=some (.slice Aa (armsAt cs s).length ca)) (ds:=[14]) (bb 15 0) (by kernel_rfl) rfl rfl ⟨(blk_cell HC.o.B3 0).trans rfl,hx1⟩ (fun hS=>?_);generalize w8.drew=W1 at HC hS ⊢;refine pk_ 0 76 1 ?_;refine pk_ 2 78 5 ?_;refine pk_ 6 82 69 ?_;refine pk_ 7 83 197 ?_;refine tk_ 1 77 199 hS ?_;refine pk_ 3 79 207 ?_;refine pk_ 4 80 223 ?_;refine tk_ 5 81 255 hS ?_;refine tk_ 8 84 511 hS ?_;refine pk_ 9 85 1023 ?_;refine pk_ 10 86 2047 ?_;refine one_ (i:=11) (N:=some 87) (bb 15 4095) rfl rfl (by kernel_rfl) (by decide) (fun K hK=>?_);refine gs_ Try.func56 #[.pointer (some ⟨g,0,none⟩), .int .i64 0, .int .i64 (wrap64 ((cs.length:Int)-1))] ?_
        with_reducible refine(spec_l1Rd_off.calls k g b p3 0 (wrap64 ((cs.length:Int)-1)) x p4 w0 _ HC.o.I HC.o.B E5.o).mono ?_
        rintro e W2 ⟨rfl,hi,hb,hk⟩;refine⟨_,rfl,?_⟩;have hxk:=keep_cell hk hS.2 HC.o.ne.1;replace HC:=q_ (HC.o.call hi hb hk);clear hi hb hk hS hx1;refine hK.out _ _ ⟨(blk_cell HC.o.B3 0).trans rfl,hxk⟩ (fun hS=>?_);clear hK K;refine no_ (some 87) ?_;obtain⟨ga,u,rfl,hz,hf2,hC⟩:=HC.o.setM HW0.o s hs0 hs1 hxk hp x;replace HC:=q_ hC;clear hC;refine pk_ 12 88 8191 ?_;refine pk_ 13 89 16383 ?_;refine last_ (i:=14) (N:=none) (bb 15 32767) rfl rfl (by kernel_rfl) (by decide) (fun K hK=>?_);refine skip_ (w1:=?_) (by rfl) rfl ?_ ?_;rotate_left
        ·go_simp
         rfl
        refine hK.out _ _ ?_;clear hK K;refine done_ (by kernel_rfl) ?_
        go_wp2_with fail
        go_meet
        case rel=>exact HC
      · obtain⟨rfl,rfl⟩:cs=r∧p3=p':=by simpa using(iN hp).symm.trans H.o
        have hlb:decide (0<((armsAt cs s).length:Int))=false:=decide_eq_false (by omega);have hlc:decide (0<(armsAt cs s).length)=false:=decide_eq_false hp;clear H
        go_wp2_with fail
        go_meet
        case rel=>exact HC
    ·have hz3:(o==3)=false:=beq_eq_false_iff_ne.mpr h3
     obtain⟨rfl,rfl⟩:cs=r∧p3=p':=by simpa using(iN h3).symm.trans H.o
     clear H h3
     go_wp2_with fail
     go_meet
     case rel=>exact HC
  clear HC H;have HC:=hcut;clear hcut;obtain⟨hy0,hf0⟩:=d1_ (q_ HC.o.B3);obtain⟨hz0,hfz⟩:=d1_ (q_ HC.o.B2)
  go_wp2_with fail
  refine bodyPost_ret (results_cell_row rfl _ _ g2 29 #[.slice (some ⟨gb,0,none⟩) r.length c4] (0,0) _ rfl (blk_put HC.o.B2 0 _ rfl) Try.underlying29 rfl (by kernel_rfl)) rfl ?_;refine⟨_,rfl,Kd.S_set HC.o.R HC.o.B2 (by decide) 0 _,HC.o.I.far HC.o.ne.2.1.symm _,below_set HC.o.B (Nat.le_trans HW0.o G2.o),keep_far HC.o.K G2.o _⟩
end Go.Proofs.Ytlecpdpdcocibaa.P
namespace Go.Proofs.Ytlecpdpdcocibaa.P
open Go.RowKit Go.Proofs.YtlecpdpdcocibaaW.PrintWords Go.Proofs.YtlecpdpdcocibaaW.PrintLast Go.Proofs.YtlecpdpdcocibaaW.PrintMore
attribute [local go_sem] max2_int min2_int max_two min_two max_three min_three max_four min_four
set_option linter.unusedVariables false
set_option linter.unusedSimpArgs false
def spec_l1Rd_code.f(k:Nat)(s0_0:List Int)(s0_1:Int):Option ((List S79) × Int):=codeF k s0_0 s0_1
theorem spec_l1Rd_code.calls(k:Nat)(g:Nat)(s0_0:List Int)(s0_1:Int)(r1:List S79)(r2:Int)(w0 w:World)(hI:IsS149 w0 w g s0_0 s0_1)(hB:Below w0.heap.size w0 w)(h:spec_l1Rd_code.f k s0_0 s0_1=some (r1,r2)):
 Calls Try.prog 68 #[.pointer (some ⟨g,0,none⟩)] w fun e w'=>∃v0_:Value,e= .returned (.agg #[v0_])∧Kd.S k79 79 w' w.heap.size (fun _=>True) v0_ r1∧IsS149 w0 w' g s0_0 r2∧Below w0.heap.size w0 w'∧KeepBut w w' g none:=code_hand k g s0_0 s0_1 r1 r2 w0 w hI hB h
def spec_DrawRunCode.f(k:Nat)(l0:List Int):Option ((List (S79)) × ByteArray × Int):=(spec_l1Open.f l0).bind fun bt102=>((spec_l1Rd_code.f k bt102.1 bt102.2).bind fun bt105=>((spec_l1Rd_text.f k bt102.1 bt105.2 12).bind fun bt110=>((spec_l1Rd_once.f bt102.1 bt110.2 2).bind fun bt112=>(if bt112.1=true then(some (bt105.1,bt110.1,0))else((spec_l1Rd_off.f k bt102.1 bt112.2 0 (bt110.1.size:Int)).bind fun bt114=>(some (bt105.1,bt110.1,bt114.1)))))))
def spec_DrawRunCode.T6:Bool × List (List Nat × List Nat):=(true,[([],[]),([],[]),([],[]),([],[]),([3],[3]),([2,4],[2,4]),([0,5,0],[0]),([1,6,0,1,6],[1]),([5,7,0,1,2,3,4,5,6,7],[5])])
def spec_DrawRunCode.B6:List Nat:=[0,0,0,0,8,28,61,127,255]
theorem spec_DrawRunCode.tab6:rtab .any (opsOf Try.f25 6)=spec_DrawRunCode.T6:=by kernel_rfl
theorem spec_DrawRunCode.bits6:waitsOk spec_DrawRunCode.T6.2 spec_DrawRunCode.B6=true:=by kernel_rfl
theorem spec_DrawRunCode.calls(k:Nat)(A0:Option Addr)(c0:Nat)(l0:List Int)(r1:List (S79))(r2:ByteArray)(r3:Int)(w:World)(hr0:Kd.C (Kd.int .u8) w A0 l0.length l0)(hc0:l0.length≤c0)(h:spec_DrawRunCode.f k l0=some (r1,r2,r3)):
  Calls Try.prog 25 #[.slice A0 l0.length c0] w fun e w'=>∃v0_:Value,e= .returned (.tuple #[.agg #[v0_], .string r2, .int .i64 r3])∧Kd.S k79 79 w' w.heap.size (fun _=>True) v0_ r1∧Below w.heap.size w w':=by
 have hu29:=Try.underlying29;have HR0:=q_ hr0;have HC0:=q_ hc0;clear hr0 hc0;have HB:=q_ (Below.refl w.heap.size w);have H:((spec_l1Open.f l0).bind fun bt102=>((spec_l1Rd_code.f k bt102.1 bt102.2).bind fun bt105=>((spec_l1Rd_text.f k bt102.1 bt105.2 12).bind fun bt110=>((spec_l1Rd_once.f bt102.1 bt110.2 2).bind fun bt112=>(if bt112.1=true then(some (bt105.1,bt110.1,0))else((spec_l1Rd_off.f k bt102.1 bt112.2 0 (bt110.1.size:Int)).bind fun bt114=>(some (bt105.1,bt110.1,bt114.1))))))))=some (r1,r2,r3):=h;clear h;replace H:=Option.bind_eq_some_iff.mp H;obtain⟨⟨t102,t103⟩,A20,H⟩:=H;dsimp only at H;have A2:=q_ A20;clear A20;replace H:=Option.bind_eq_some_iff.mp H;obtain⟨⟨t105,t108⟩,A30,H⟩:=H;dsimp only at H;have A3:=q_ A30;clear A30;replace H:=Option.bind_eq_some_iff.mp H;obtain⟨⟨t110,t111⟩,A40,H⟩:=H;dsimp only at H;have A4:=q_ A40;clear A40;replace H:=Option.bind_eq_some_iff.mp H;obtain⟨⟨t112,t113⟩,A50,H⟩:=H;dsimp only at H;have A5:=q_ A50;clear A50;by_cases c6:t112=true
 ·subst c6;rw[iP rfl]at H;simp only[Option.some.injEq,Prod.mk.injEq]at H;obtain⟨rfl,rfl,rfl⟩:=H;go_enter Try.func25,Try.ntmps25
  go_wp2_with(first| ((with_reducible refine gate_dst (N:=2) rfl ?_);refine bx_ 2 #[.slice none 0 0] 29 ?_;intro gb101 hg w7 hbox hb;have Q101:=q_ (hbox);have G101:=ge_ hg HB;replace HB:=sb_ HB hb;clear hb hbox hg)| ((with_reducible refine gate_callee (f:=52) rfl ?_);refine gl_ (some 9) rfl rfl Try.func52 #[.slice A0 l0.length c0] ?_;(with_reducible refine(spec_l1Open.calls _ _ l0 t102 t103 w _ ?side1 ?side2 ?side3 A2.o).mono ?_);(case side1=>exact be1_ HB.o G101.o);(case side2=>exact HR0.o);(case side3=>exact HC0.o);rintro e w8 ⟨g104,rfl,hi,hb,hb2⟩;refine⟨_,rfl,?_⟩;have HI104:=q_ (hi);have N104_101:=q_ (IsS149.ne_blk hi (blk_below (g:=gb101) (o:= .cells #[.slice none 0 0] 29 (0,0)) (bk_ Q101.o) hb2) (by decide));have N101_104:=q_ (Ne.symm (IsS149.ne_blk hi (blk_below (g:=gb101) (o:= .cells #[.slice none 0 0] 29 (0,0)) (bk_ Q101.o) hb2) (by decide)));replace Q101:=lb_ Q101 hb2;replace HB:=q_ (hb);clear hb)| ((with_reducible refine gate_callee (f:=68) rfl ?_);refine gl_ (some 11) rfl rfl Try.func68 #[.pointer (some ⟨g104,0,none⟩)] ?_;(with_reducible refine(spec_l1Rd_code.calls k g104 t102 t103 t105 t108 w _ ?side1 ?side2 A3.o).mono ?_);(case side1=>exact si1_ HI104 N104_101);(case side2=>exact be2_ HB.o (IsS149.ge HI104.o) G101.o);rintro e w9 ⟨v106,rfl,ho0,hi,hb,hk⟩;refine⟨_,rfl,?_⟩;have O107:=q_ (Kd.S_lower ho0 (below_size (be2_ HB.o (IsS149.ge HI104.o) G101.o)));replace Q101:=kbk_ hk Q101 N101_104;replace HB:=q_ (hb);replace HI104:=q_ (hi);clear hb ho0)| ((with_reducible refine gate_dst (N:=6) rfl ?_);refine bx_ 6 #[.slice none 0 0] 29 ?_;intro gb109 hg w10 hbox hb;have Q109:=q_ (hbox);have G109:=q_ ((by rw[hg];exact(below_size (be2_ HB.o (IsS149.ge HI104.o) G101.o)):w.heap.size≤gb109));have N101_109:=nl_ hg Q101;have N109_101:=ng_ hg Q101;have N104_109:=nsl_ hg (show IsS149 w _ g104 t102 t108 from si1_ HI104 N104_101);have N109_104:=nsg_ hg (show IsS149 w _ g104 t102 t108 from si1_ HI104 N104_101);replace O107:=bS_ O107 hb;replace Q101:=lb_ Q101 hb;replace HB:=q_ (below_step (be2_ HB.o (IsS149.ge HI104.o) G101.o) hb);replace HI104:=ib1_ HI104 N104_101 hb;clear hb hbox hg;obtain⟨Ao11,co11,eo11⟩:=Kd.S_slice O107.o;subst eo11;have hnb12:=N109_101.o;have hnc12:=N101_109.o;have hnb13:=N109_104.o;have hnc13:=N104_109.o;obtain⟨z14_0,y14_0⟩:=d1_ Q109)| ((with_reducible refine gate_callee (f:=54) rfl ?_);refine gl_ (some 13) rfl rfl Try.func54 #[.pointer (some ⟨g104,0,none⟩), .int .i64 12] ?_;(with_reducible refine(spec_l1Rd_text.calls k g104 t102 t108 12 t110 t111 w _ ?side1 ?side2 A4.o).mono ?_);(case side1=>exact si2_ HI104 N104_101 N104_109);(case side2=>exact be3_ HB.o (IsS149.ge HI104.o) G101.o G109.o);rintro e w15 ⟨rfl,hi,hb,hk⟩;refine⟨_,rfl,?_⟩;replace Q101:=q_ (KeepBut.blk hk (g':=gb101) (o:= .cells #[.slice none 0 0] 29 (0,0)) (bw_ Q101 N101_109) N101_104.o (by simp));replace O107:=q_ (Kd.S_mono (Kd.S_keep (IsS149.apartS (show IsS149 w _ g104 t102 t108 from si2_ HI104 N104_101 N104_109) (Kd.S_mono (rfS_ (Kd.S_types O107.o Q109.o (by decide))) (fun _ h_=>h_.1)) (by decide)) hk (fun _ h=>h.2)) (fun _ h=>h.1));replace Q109:=q_ (KeepBut.blk hk (g':=gb109) (o:= .cells #[.slice Ao11 t105.length co11] 29 (0,0)) (bp_ Q109) N109_104.o (by simp));replace HB:=q_ (hb);replace HI104:=q_ (hi);clear hb)| ((with_reducible refine gate_callee (f:=55) rfl ?_);refine gl_ (some 15) rfl rfl Try.func55 #[.pointer (some ⟨g104,0,none⟩), .int .i64 2] ?_;(with_reducible refine(spec_l1Rd_once.calls g104 t102 t111 2 true t113 w _ ?side1 ?side2 A5.o).mono ?_);(case side1=>exact si2_ HI104 N104_101 N104_109);(case side2=>exact be3_ HB.o (IsS149.ge HI104.o) G101.o G109.o);rintro e w16 ⟨rfl,hi,hb,hk⟩;refine⟨_,rfl,?_⟩;replace Q101:=kbk_ hk Q101 N101_104;replace O107:=q_ (Kd.S_mono (Kd.S_keep (IsS149.apartS (show IsS149 w _ g104 t102 t111 from si2_ HI104 N104_101 N104_109) (sa_ O107.o) (by decide)) hk (fun _ h=>h.2)) (fun _ h=>h.1));replace Q109:=kbk_ hk Q109 N109_104;replace HB:=q_ (hb);replace HI104:=q_ (hi);clear hb;obtain⟨z17_0,y17_0⟩:=d1_ Q109;have hnb18:=N101_104.o;have hnc18:=N104_101.o;obtain⟨z19_0,y19_0⟩:=d1_ Q101))
  refine bodyPost_ret (results_ctt rfl _ _ gb101 29 #[.slice Ao11 t105.length co11] (0,0) _ rfl (bp_ Q101) Try.underlying29 rfl (by kernel_rfl)) rfl ?_;exact⟨_,rt_,by(with_reducible repeat(first|apply Kd.S_alloc|apply Kd.S_drewN|apply Kd.S_drew));exact Kd.S_mono (rfS_ (Kd.S_types O107.o Q101.o (by decide))) (fun _ hk=>trivial),be3_ HB.o (IsS149.ge HI104.o) G101.o G109.o⟩
 replace c6:=Bool.eq_false_iff.mpr c6;subst c6;rw[iN nft_]at H;replace H:=Option.bind_eq_some_iff.mp H;obtain⟨⟨t114,t115⟩,A200,H⟩:=H;dsimp only at H;have A20:=q_ A200;clear A200;simp only[Option.some.injEq,Prod.mk.injEq]at H;obtain⟨rfl,rfl,rfl⟩:=H;go_enter Try.func25,Try.ntmps25
 try go_wp2_with(first| ((with_reducible refine gate_dst (N:=2) rfl ?_);refine bx_ 2 #[.slice none 0 0] 29 ?_;intro gb101 hg w21 hbox hb;have Q101:=q_ (hbox);have G101:=ge_ hg HB;replace HB:=sb_ HB hb;clear hb hbox hg)| ((with_reducible refine gate_callee (f:=52) rfl ?_);refine gl_ (some 9) rfl rfl Try.func52 #[.slice A0 l0.length c0] ?_;(with_reducible refine(spec_l1Open.calls _ _ l0 t102 t103 w _ ?side1 ?side2 ?side3 A2.o).mono ?_);(case side1=>exact be1_ HB.o G101.o);(case side2=>exact HR0.o);(case side3=>exact HC0.o);rintro e w22 ⟨g104,rfl,hi,hb,hb2⟩;refine⟨_,rfl,?_⟩;have HI104:=q_ (hi);have N104_101:=q_ (IsS149.ne_blk hi (blk_below (g:=gb101) (o:= .cells #[.slice none 0 0] 29 (0,0)) (bk_ Q101.o) hb2) (by decide));have N101_104:=q_ (Ne.symm (IsS149.ne_blk hi (blk_below (g:=gb101) (o:= .cells #[.slice none 0 0] 29 (0,0)) (bk_ Q101.o) hb2) (by decide)));replace Q101:=lb_ Q101 hb2;replace HB:=q_ (hb);clear hb)| ((with_reducible refine gate_callee (f:=68) rfl ?_);refine gl_ (some 11) rfl rfl Try.func68 #[.pointer (some ⟨g104,0,none⟩)] ?_;(with_reducible refine(spec_l1Rd_code.calls k g104 t102 t103 t105 t108 w _ ?side1 ?side2 A3.o).mono ?_);(case side1=>exact si1_ HI104 N104_101);(case side2=>exact be2_ HB.o (IsS149.ge HI104.o) G101.o);rintro e w23 ⟨v106,rfl,ho0,hi,hb,hk⟩;refine⟨_,rfl,?_⟩;have O107:=q_ (Kd.S_lower ho0 (below_size (be2_ HB.o (IsS149.ge HI104.o) G101.o)));replace Q101:=kbk_ hk Q101 N101_104;replace HB:=q_ (hb);replace HI104:=q_ (hi);clear hb ho0)| ((with_reducible refine gate_dst (N:=6) rfl ?_);refine bx_ 6 #[.slice none 0 0] 29 ?_;intro gb109 hg w24 hbox hb;have Q109:=q_ (hbox);have G109:=q_ ((by rw[hg];exact(below_size (be2_ HB.o (IsS149.ge HI104.o) G101.o)):w.heap.size≤gb109));have N101_109:=nl_ hg Q101;have N109_101:=ng_ hg Q101;have N104_109:=nsl_ hg (show IsS149 w _ g104 t102 t108 from si1_ HI104 N104_101);have N109_104:=nsg_ hg (show IsS149 w _ g104 t102 t108 from si1_ HI104 N104_101);replace O107:=bS_ O107 hb;replace Q101:=lb_ Q101 hb;replace HB:=q_ (below_step (be2_ HB.o (IsS149.ge HI104.o) G101.o) hb);replace HI104:=ib1_ HI104 N104_101 hb;clear hb hbox hg;obtain⟨Ao25,co25,eo25⟩:=Kd.S_slice O107.o;subst eo25;have hnb26:=N109_101.o;have hnc26:=N101_109.o;have hnb27:=N109_104.o;have hnc27:=N104_109.o;obtain⟨z28_0,y28_0⟩:=d1_ Q109)| ((with_reducible refine gate_callee (f:=54) rfl ?_);refine gl_ (some 13) rfl rfl Try.func54 #[.pointer (some ⟨g104,0,none⟩), .int .i64 12] ?_;(with_reducible refine(spec_l1Rd_text.calls k g104 t102 t108 12 t110 t111 w _ ?side1 ?side2 A4.o).mono ?_);(case side1=>exact si2_ HI104 N104_101 N104_109);(case side2=>exact be3_ HB.o (IsS149.ge HI104.o) G101.o G109.o);rintro e w29 ⟨rfl,hi,hb,hk⟩;refine⟨_,rfl,?_⟩;replace Q101:=q_ (KeepBut.blk hk (g':=gb101) (o:= .cells #[.slice none 0 0] 29 (0,0)) (bw_ Q101 N101_109) N101_104.o (by simp));replace O107:=q_ (Kd.S_mono (Kd.S_keep (IsS149.apartS (show IsS149 w _ g104 t102 t108 from si2_ HI104 N104_101 N104_109) (Kd.S_mono (rfS_ (Kd.S_types O107.o Q109.o (by decide))) (fun _ h_=>h_.1)) (by decide)) hk (fun _ h=>h.2)) (fun _ h=>h.1));replace Q109:=q_ (KeepBut.blk hk (g':=gb109) (o:= .cells #[.slice Ao25 t105.length co25] 29 (0,0)) (bp_ Q109) N109_104.o (by simp));replace HB:=q_ (hb);replace HI104:=q_ (hi);clear hb)| ((with_reducible refine gate_callee (f:=55) rfl ?_);refine gl_ (some 15) rfl rfl Try.func55 #[.pointer (some ⟨g104,0,none⟩), .int .i64 2] ?_;(with_reducible refine(spec_l1Rd_once.calls g104 t102 t111 2 false t113 w _ ?side1 ?side2 A5.o).mono ?_);(case side1=>exact si2_ HI104 N104_101 N104_109);(case side2=>exact be3_ HB.o (IsS149.ge HI104.o) G101.o G109.o);rintro e w30 ⟨rfl,hi,hb,hk⟩;refine⟨_,rfl,?_⟩;replace Q101:=kbk_ hk Q101 N101_104;replace O107:=q_ (Kd.S_mono (Kd.S_keep (IsS149.apartS (show IsS149 w _ g104 t102 t111 from si2_ HI104 N104_101 N104_109) (sa_ O107.o) (by decide)) hk (fun _ h=>h.2)) (fun _ h=>h.1));replace Q109:=kbk_ hk Q109 N109_104;replace HB:=q_ (hb);replace HI104:=q_ (hi);clear hb))
 replace O107:=q_ (Kd.S_drew O107.o);replace Q101:=q_ (blk_drew Q101.o);replace Q109:=q_ (blk_drew Q109.o);replace HI104:=q_ (IsS149.drew HI104.o);replace HB:=q_ (below_drew1 HB.o);refine start_ (n:=9) (S:=fun w'=>w'.cell? ⟨gb109,0,none⟩=some (.slice Ao25 t105.length co25)) (ds:=[]) (bb 9 0) (by kernel_rfl) rfl rfl ((blk_cell Q109.o 0).trans rfl) (fun hHeld=>?_);refine with_tabW spec_DrawRunCode.tab6 spec_DrawRunCode.bits6 (fun HT_ HW_=>?_);generalize w30.drew=w31 at O107 Q101 Q109 HI104 HB hHeld ⊢;refine pv_ 1 19 2 HT_.o ?_;refine pv_ 2 20 6 HT_.o ?_;refine pv_ 3 21 14 HT_.o ?_;refine pv_ 4 22 30 HT_.o ?_;refine tv_ 0 18 31 HT_.o HW_.o hHeld ?_;refine one_ (i:=5) (N:=some 23) (bb 9 63) rfl rfl (one_of HT_.o (by kernel_rfl)) (by decide) (fun K hK=>?_);refine gs_ Try.func56 #[.pointer (some ⟨g104,0,none⟩), .int .i64 0, .int .i64 (t110.size:Int)] ?_
 with_reducible refine(spec_l1Rd_off.calls k g104 t102 t113 0 (t110.size:Int) t114 t115 w _ ?side1 ?side2 A20.o).mono ?_
 (case side1=>exact si2_ HI104 N104_101 N104_109);(case side2=>exact be3_ HB.o (IsS149.ge HI104.o) G101.o G109.o);rintro e w32 ⟨rfl,hi,hb,hk⟩;refine⟨_,rfl,?_⟩;replace Q101:=kbk_ hk Q101 N101_104;replace O107:=q_ (Kd.S_mono (Kd.S_keep (IsS149.apartS (show IsS149 w _ g104 t102 t113 from si2_ HI104 N104_101 N104_109) (sa_ O107.o) (by decide)) hk (fun _ h=>h.2)) (fun _ h=>h.1));replace Q109:=kbk_ hk Q109 N109_104;replace HB:=q_ (hb);replace HI104:=q_ (hi);clear hb;clear hb2;clear hk;clear hi;refine hK.out _ _ ((blk_cell Q109.o 0).trans rfl) (fun hHeld=>?_);clear hK K;refine no_ (some 23) ?_;refine one_ (i:=6) (N:=none) (bb 9 127) rfl rfl (one_of HT_.o (by kernel_rfl)) (by decide) (fun K hK=>?_);have hs33:w32.cell? ⟨gb101,0,none⟩=some (.slice none 0 0):=(blk_cell Q101.o 0).trans rfl;have hfs33:=blk_frozen Q101.o 0;have hns33_1:=N109_101.o;have hms33_1:=N101_109.o;refine skip_ (w1:=?_) (by rfl) rfl ?_ ?_;rotate_left
 ·go_simp
  rfl
 refine hK.out _ _ (((cell_far (p:=⟨gb101,_,none⟩) N109_101.o _).trans (hHeld))) (fun hHeld=>?_);clear hK K;refine pv_ 7 3 255 HT_.o ?_;refine pv_ 8 4 511 HT_.o ?_;refine done_ (done_of HT_.o (by kernel_rfl)) ?_
 try go_wp2
 refine bodyPost_ret (results_ctt rfl _ _ gb101 29 #[.slice Ao25 t105.length co25] (0,0) _ rfl (bp_ Q101) Try.underlying29 rfl (by kernel_rfl)) rfl ?_;exact⟨_,rt_,by(with_reducible repeat(first|apply Kd.S_alloc|apply Kd.S_drewN|apply Kd.S_drew));exact Kd.S_mono (rfS_ (Kd.S_types O107.o Q101.o (by decide))) (fun _ hk=>trivial),be3_ HB.o (IsS149.ge HI104.o) G101.o G109.o⟩
def impl_armsOk.l0:Nat→List (S81)→Int→List (S81)→Int→Int→Option (Bool)
 |0,_,_,_,_,_=>none
 |k+1,x0,x1,x7,x8,x9=>if x9<x8 then(if 0≤x9 then(if x9<(x7.length:Int)then(if((rd_T81 x7 x9).f0)<0 then(some false)else(if((rd_T81 x7 x9).f0)>((rd_T81 x7 x9).f1)then(some false)else(if((rd_T81 x7 x9).f1)>255 then(some false)else(if x9>0 then(if 0≤(wrap64 (x9-1))then(if(wrap64 (x9-1))<(x0.length:Int)then(if((rd_T81 x7 x9).f0)≤((rd_T81 x0 (wrap64 (x9-1))).f1)then(some false)else((impl_within.f ((rd_T81 x7 x9).f2) 0 (wrap64 (x1-1))).bind fun t104=>(if t104=true then(impl_armsOk.l0 k x0 x1 x7 x8 (wrap64 (x9+1)))else(some false))))else(none))else(none))else((impl_within.f ((rd_T81 x7 x9).f2) 0 (wrap64 (x1-1))).bind fun t105=>(if t105=true then(impl_armsOk.l0 k x0 x1 x7 x8 (wrap64 (x9+1)))else(some false)))))))else(none))else(none))else(some true)
def impl_armsOk.f(k:Nat)(l0:List (S81))(a1:Int):Option (Bool):=impl_armsOk.l0 k l0 a1 l0 (l0.length:Int) 0
def impl_armsOk.T4:Bool × List (List Nat × List Nat):=(true,[([],[]),([0],[0]),([1],[1]),([2],[2]),([3],[3]),([4,3],[3,4]),([3],[3]),([6,3],[3,6]),([5,7,3],[3,5,7]),([3,8],[3,8]),([9,3],[9]),([10],[10]),([11,10],[10,11]),([12,10],[10,12]),([10,13],[10,13]),([14,10],[14]),([15],[15]),([16,15],[15,16]),([17,15,15],[15,17]),([18],[18]),([19,18],[18,19]),([18],[18]),([18],[18]),([22,18],[18,22]),([21,23,18],[18,21,23]),([24,18],[18,24]),([25,18],[18,25]),([20,26,18],[18,20,26]),([18,27,15],[15,18,27]),([15,28],[15,28]),([29,18],[29]),([30],[30]),([31,30],[30,31]),([30],[30]),([33,30],[30,33]),([32,34,30,30],[30,32,34]),([35,30],[30,35]),([30,36],[30,36])])
def impl_armsOk.B4:List Nat:=[0,1,3,7,15,31,15,79,255,511,1023,2047,4095,8191,16383,32767,65535,131071,262143,524287,1048575,524287,524287,4718591,15204351,31981567,65535999,134217727,268435455,536870911,1073741823,2147483647,4294967295,2147483647,10737418239,34359738367,68719476735,137438953471]
theorem impl_armsOk.tab4:rtab .any (opsOf Try.f64 4)=impl_armsOk.T4:=by kernel_rfl
theorem impl_armsOk.bits4:waitsOk impl_armsOk.T4.2 impl_armsOk.B4=true:=by kernel_rfl
theorem impl_armsOk.calls(k:Nat)(A0:Option Addr)(c0:Nat)(l0:List (S81))(a1:Int)(r:Bool)(w:World)(hr0:Kd.C k81 w A0 l0.length l0)(hc0:l0.length≤c0)(h:impl_armsOk.f k l0 a1=some r):
  Calls Try.prog 64 #[.slice A0 l0.length c0, .int .i64 a1] w fun e w'=>e= .returned (.bool r)∧Below w.heap.size w w':=by
 have hu81:=Try.underlying81;have HR0:=q_ hr0;have HC0:=q_ hc0;clear hr0 hc0;have HB:=q_ (Below.refl w.heap.size w);have H:(impl_armsOk.l0 k l0 a1 l0 (l0.length:Int) 0)=some r:=h;clear h;have H':=q_ H;clear H;go_enter Try.func64,Try.ntmps64;go_wp2
 go_loopg [9] k (fun kq v9 w'=>∃(x9_1:Int),v9= .int .i64 x9_1∧J0 (impl_armsOk.l0 kq l0 a1 l0 (l0.length:Int) x9_1=some r)∧J0 (kq≤k)∧J0 (Below w.heap.size w w'))
 case atStart=>exact⟨(0),rs_,H',⟨Nat.le_refl _⟩,⟨be_ HB.o⟩⟩
 case round=>
  clear H';obtain⟨x9_1,rfl,HA,HK1,HB⟩:=hrel;cases gk with
  |zero=>exact absurd HA.o (by simp[impl_armsOk.l0])
  | succ k1=>
   have H:=HA.o;clear HA;simp only[impl_armsOk.l0]at H;by_cases c3:x9_1<(l0.length:Int);rotate_left
   ·rw[iN c3]at H;have c3b0:=df_ c3;clear c3;obtain rfl:=Option.some.inj H;go_wp2
    go_ret
    exact⟨rt_,be_ HB.o⟩
   rw[iP c3]at H;have c3b0:=dt_ c3;clear c3;obtain⟨c4b0,H⟩:=iq_ H;obtain⟨c5b0,H⟩:=iq_ H;obtain⟨p101,q101⟩:=pq_ x9_1 (l0.length:Int);obtain⟨ad101,e101,X101_0,X101_1,X101_2⟩:=at_T81 HR0.o x9_1 p101 q101;cases e101;replace X101_0:=mv_ HB.o X101_0;replace X101_1:=mv_ HB.o X101_1;replace X101_2:=mv_ HB.o X101_2;obtain⟨p101,q101⟩:=et_ p101 q101
   try go_wp2_with(((with_reducible refine gate_dst (N:=6) rfl ?_);refine bx_ 6 #[.int .i64 0, .int .i64 0, .int .i64 0] 81 ?_;intro gb102 hg w7 hbox hb;have Q102:=q_ (hbox);have G102:=ge_ hg HB;replace HB:=sb_ HB hb;clear hb hbox hg;obtain⟨z8_0,z8_1,z8_2,y8_0,y8_1,y8_2⟩:=d3_ Q102))
   have n0_:J0 ((((w7.setCell ⟨gb102,0,none⟩ (.int .i64 ((rd_T81 l0 x9_1).f0))).setCell ⟨gb102,1,none⟩ (.int .i64 ((rd_T81 l0 x9_1).f1))).setCell ⟨gb102,2,none⟩ (.int .i64 ((rd_T81 l0 x9_1).f2))).heap[gb102]? =some (.cells #[.int .i64 ((rd_T81 l0 x9_1).f0), .int .i64 ((rd_T81 l0 x9_1).f1), .int .i64 ((rd_T81 l0 x9_1).f2)] 81 (0,0))):=⟨by(with_reducible repeat(first|refine blk_drewN ?_ _|refine blk_drew ?_|refine blk_alloc ?_ _));refine blk_put (cs:=#[.int .i64 ((rd_T81 l0 x9_1).f0), .int .i64 ((rd_T81 l0 x9_1).f1), .int .i64 0]) ?_ 2 _ rfl;(with_reducible repeat(first|refine blk_drewN ?_ _|refine blk_drew ?_|refine blk_alloc ?_ _));refine blk_put (cs:=#[.int .i64 ((rd_T81 l0 x9_1).f0), .int .i64 0, .int .i64 0]) ?_ 1 _ rfl;(with_reducible repeat(first|refine blk_drewN ?_ _|refine blk_drew ?_|refine blk_alloc ?_ _));refine blk_put (cs:=#[.int .i64 0, .int .i64 0, .int .i64 0]) ?_ 0 _ rfl;(with_reducible repeat(first|refine blk_drewN ?_ _|refine blk_drew ?_|refine blk_alloc ?_ _));exact Q102.o⟩;have n1_:J0 (Below w.heap.size w (((w7.setCell ⟨gb102,0,none⟩ (.int .i64 ((rd_T81 l0 x9_1).f0))).setCell ⟨gb102,1,none⟩ (.int .i64 ((rd_T81 l0 x9_1).f1))).setCell ⟨gb102,2,none⟩ (.int .i64 ((rd_T81 l0 x9_1).f2)))):=⟨be1_ HB.o G102.o⟩;clear Q102;clear HB;generalize(((w7.setCell ⟨gb102,0,none⟩ (.int .i64 ((rd_T81 l0 x9_1).f0))).setCell ⟨gb102,1,none⟩ (.int .i64 ((rd_T81 l0 x9_1).f1))).setCell ⟨gb102,2,none⟩ (.int .i64 ((rd_T81 l0 x9_1).f2)))=w9 at n0_ n1_ ⊢;have Q102:=n0_;have HB:=n1_;clear n0_ n1_;replace Q102:=q_ (blk_drew Q102.o);replace HB:=q_ (below_drew1 HB.o);by_cases c6:((rd_T81 l0 x9_1).f0)<0
   ·rw[iP c6]at H;have c6b0:=dt_ c6;clear c6;obtain rfl:=Option.some.inj H;refine start_ (n:=38) (S:=fun w'=>w'.cell? ⟨gb102,0,none⟩=some (.int .i64 ((rd_T81 l0 x9_1).f0))∧w'.cell? ⟨gb102,1,none⟩=some (.int .i64 ((rd_T81 l0 x9_1).f1))∧w'.cell? ⟨gb102,2,none⟩=some (.int .i64 ((rd_T81 l0 x9_1).f2))) (ds:=[]) (bb 38 0) (by kernel_rfl) rfl rfl ⟨(blk_cell Q102.o 0).trans rfl,(blk_cell Q102.o 1).trans rfl,(blk_cell Q102.o 2).trans rfl⟩ (fun hHeld=>?_);refine with_tabW impl_armsOk.tab4 impl_armsOk.bits4 (fun HT_ HW_=>?_);generalize w9.drew=w10 at Q102 HB hHeld ⊢;refine pv_ 0 14 1 HT_.o ?_;refine tv_ 1 15 3 HT_.o HW_.o hHeld ?_;refine pv_ 2 16 7 HT_.o ?_;refine pv_ 3 17 15 HT_.o ?_;refine pw_ 4 (some 18) (bb 38 31) HT_.o ?_;refine pw_ 5 (some 19) (bb 38 63) HT_.o ?_;refine pw_ 6 (some 20) (bb 38 127) HT_.o ?_;refine pw_ 7 (some 21) (bb 38 255) HT_.o ?_;refine pw_ 8 (some 22) (bb 38 511) HT_.o ?_;refine pv_ 9 23 1023 HT_.o ?_;refine pv_ 10 24 2047 HT_.o ?_;refine pw_ 11 (some 25) (bb 38 4095) HT_.o ?_;refine pw_ 12 (some 26) (bb 38 8191) HT_.o ?_;refine pw_ 13 (some 27) (bb 38 16383) HT_.o ?_;refine pv_ 14 28 32767 HT_.o ?_;refine pv_ 15 29 65535 HT_.o ?_;refine pw_ 16 (some 30) (bb 38 131071) HT_.o ?_;refine pw_ 17 (some 31) (bb 38 262143) HT_.o ?_;refine pw_ 18 (some 32) (bb 38 524287) HT_.o ?_;refine pw_ 19 (some 33) (bb 38 1048575) HT_.o ?_;refine pw_ 20 (some 34) (bb 38 2097151) HT_.o ?_;refine pw_ 21 (some 35) (bb 38 4194303) HT_.o ?_;refine pw_ 22 (some 36) (bb 38 8388607) HT_.o ?_;refine pw_ 23 (some 37) (bb 38 16777215) HT_.o ?_;refine pw_ 24 (some 38) (bb 38 33554431) HT_.o ?_;refine pw_ 25 (some 39) (bb 38 67108863) HT_.o ?_;refine pw_ 26 (some 40) (bb 38 134217727) HT_.o ?_;refine pw_ 27 (some 41) (bb 38 268435455) HT_.o ?_;refine pw_ 28 (some 42) (bb 38 536870911) HT_.o ?_;refine pv_ 29 43 1073741823 HT_.o ?_;refine pv_ 30 44 2147483647 HT_.o ?_;refine pw_ 31 (some 45) (bb 38 4294967295) HT_.o ?_;refine pw_ 32 (some 46) (bb 38 8589934591) HT_.o ?_;refine pw_ 33 (some 47) (bb 38 17179869183) HT_.o ?_;refine pw_ 34 (some 48) (bb 38 34359738367) HT_.o ?_;refine pw_ 35 (some 49) (bb 38 68719476735) HT_.o ?_;refine pw_ 36 (some 50) (bb 38 137438953471) HT_.o ?_;refine pv_ 37 51 274877906943 HT_.o ?_;refine done_ (done_of HT_.o (by kernel_rfl)) ?_
    try go_wp2
    go_ret
    exact⟨rt_,be1_ HB.o G102.o⟩
   rw[iN c6]at H;have c6b0:=df_ c6;clear c6;by_cases c11:((rd_T81 l0 x9_1).f0)>((rd_T81 l0 x9_1).f1)
   ·rw[iP c11]at H;have d11:decide (((rd_T81 l0 x9_1).f1)<((rd_T81 l0 x9_1).f0))=true:=dt_ c11;clear c11;obtain rfl:=Option.some.inj H;refine start_ (n:=38) (S:=fun w'=>w'.cell? ⟨gb102,0,none⟩=some (.int .i64 ((rd_T81 l0 x9_1).f0))∧w'.cell? ⟨gb102,1,none⟩=some (.int .i64 ((rd_T81 l0 x9_1).f1))∧w'.cell? ⟨gb102,2,none⟩=some (.int .i64 ((rd_T81 l0 x9_1).f2))) (ds:=[]) (bb 38 0) (by kernel_rfl) rfl rfl ⟨(blk_cell Q102.o 0).trans rfl,(blk_cell Q102.o 1).trans rfl,(blk_cell Q102.o 2).trans rfl⟩ (fun hHeld=>?_);refine with_tabW impl_armsOk.tab4 impl_armsOk.bits4 (fun HT_ HW_=>?_);generalize w9.drew=w15 at Q102 HB hHeld ⊢;refine pv_ 0 14 1 HT_.o ?_;refine tv_ 1 15 3 HT_.o HW_.o hHeld ?_;refine pv_ 2 16 7 HT_.o ?_;refine pv_ 3 17 15 HT_.o ?_;refine pv_ 4 18 31 HT_.o ?_;refine pv_ 6 20 95 HT_.o ?_;refine tv_ 5 19 127 HT_.o HW_.o hHeld ?_;refine tv_ 7 21 255 HT_.o HW_.o hHeld ?_;refine pv_ 8 22 511 HT_.o ?_;refine pv_ 9 23 1023 HT_.o ?_;refine pv_ 10 24 2047 HT_.o ?_;refine pw_ 11 (some 25) (bb 38 4095) HT_.o ?_;refine pw_ 12 (some 26) (bb 38 8191) HT_.o ?_;refine pw_ 13 (some 27) (bb 38 16383) HT_.o ?_;refine pv_ 14 28 32767 HT_.o ?_;refine pv_ 15 29 65535 HT_.o ?_;refine pw_ 16 (some 30) (bb 38 131071) HT_.o ?_;refine pw_ 17 (some 31) (bb 38 262143) HT_.o ?_;refine pw_ 18 (some 32) (bb 38 524287) HT_.o ?_;refine pw_ 19 (some 33) (bb 38 1048575) HT_.o ?_;refine pw_ 20 (some 34) (bb 38 2097151) HT_.o ?_;refine pw_ 21 (some 35) (bb 38 4194303) HT_.o ?_;refine pw_ 22 (some 36) (bb 38 8388607) HT_.o ?_;refine pw_ 23 (some 37) (bb 38 16777215) HT_.o ?_;refine pw_ 24 (some 38) (bb 38 33554431) HT_.o ?_;refine pw_ 25 (some 39) (bb 38 67108863) HT_.o ?_;refine pw_ 26 (some 40) (bb 38 134217727) HT_.o ?_;refine pw_ 27 (some 41) (bb 38 268435455) HT_.o ?_;refine pw_ 28 (some 42) (bb 38 536870911) HT_.o ?_;refine pv_ 29 43 1073741823 HT_.o ?_;refine pv_ 30 44 2147483647 HT_.o ?_;refine pw_ 31 (some 45) (bb 38 4294967295) HT_.o ?_;refine pw_ 32 (some 46) (bb 38 8589934591) HT_.o ?_;refine pw_ 33 (some 47) (bb 38 17179869183) HT_.o ?_;refine pw_ 34 (some 48) (bb 38 34359738367) HT_.o ?_;refine pw_ 35 (some 49) (bb 38 68719476735) HT_.o ?_;refine pw_ 36 (some 50) (bb 38 137438953471) HT_.o ?_;refine pv_ 37 51 274877906943 HT_.o ?_;refine done_ (done_of HT_.o (by kernel_rfl)) ?_
    try go_wp2
    go_ret
    exact⟨rt_,be1_ HB.o G102.o⟩
   rw[iN c11]at H;have d11:decide (((rd_T81 l0 x9_1).f1)<((rd_T81 l0 x9_1).f0))=false:=df_ c11;clear c11;by_cases c16:((rd_T81 l0 x9_1).f1)>255
   ·rw[iP c16]at H;have d16:decide (255<((rd_T81 l0 x9_1).f1))=true:=dt_ c16;clear c16;obtain rfl:=Option.some.inj H;refine start_ (n:=38) (S:=fun w'=>w'.cell? ⟨gb102,0,none⟩=some (.int .i64 ((rd_T81 l0 x9_1).f0))∧w'.cell? ⟨gb102,1,none⟩=some (.int .i64 ((rd_T81 l0 x9_1).f1))∧w'.cell? ⟨gb102,2,none⟩=some (.int .i64 ((rd_T81 l0 x9_1).f2))) (ds:=[]) (bb 38 0) (by kernel_rfl) rfl rfl ⟨(blk_cell Q102.o 0).trans rfl,(blk_cell Q102.o 1).trans rfl,(blk_cell Q102.o 2).trans rfl⟩ (fun hHeld=>?_);refine with_tabW impl_armsOk.tab4 impl_armsOk.bits4 (fun HT_ HW_=>?_);generalize w9.drew=w20 at Q102 HB hHeld ⊢;refine pv_ 0 14 1 HT_.o ?_;refine tv_ 1 15 3 HT_.o HW_.o hHeld ?_;refine pv_ 2 16 7 HT_.o ?_;refine pv_ 3 17 15 HT_.o ?_;refine pv_ 4 18 31 HT_.o ?_;refine pv_ 6 20 95 HT_.o ?_;refine tv_ 5 19 127 HT_.o HW_.o hHeld ?_;refine tv_ 7 21 255 HT_.o HW_.o hHeld ?_;refine pv_ 8 22 511 HT_.o ?_;refine pv_ 9 23 1023 HT_.o ?_;refine pv_ 10 24 2047 HT_.o ?_;refine pv_ 11 25 4095 HT_.o ?_;refine tv_ 12 26 8191 HT_.o HW_.o hHeld ?_;refine pv_ 13 27 16383 HT_.o ?_;refine pv_ 14 28 32767 HT_.o ?_;refine pv_ 15 29 65535 HT_.o ?_;refine pw_ 16 (some 30) (bb 38 131071) HT_.o ?_;refine pw_ 17 (some 31) (bb 38 262143) HT_.o ?_;refine pw_ 18 (some 32) (bb 38 524287) HT_.o ?_;refine pw_ 19 (some 33) (bb 38 1048575) HT_.o ?_;refine pw_ 20 (some 34) (bb 38 2097151) HT_.o ?_;refine pw_ 21 (some 35) (bb 38 4194303) HT_.o ?_;refine pw_ 22 (some 36) (bb 38 8388607) HT_.o ?_;refine pw_ 23 (some 37) (bb 38 16777215) HT_.o ?_;refine pw_ 24 (some 38) (bb 38 33554431) HT_.o ?_;refine pw_ 25 (some 39) (bb 38 67108863) HT_.o ?_;refine pw_ 26 (some 40) (bb 38 134217727) HT_.o ?_;refine pw_ 27 (some 41) (bb 38 268435455) HT_.o ?_;refine pw_ 28 (some 42) (bb 38 536870911) HT_.o ?_;refine pv_ 29 43 1073741823 HT_.o ?_;refine pv_ 30 44 2147483647 HT_.o ?_;refine pw_ 31 (some 45) (bb 38 4294967295) HT_.o ?_;refine pw_ 32 (some 46) (bb 38 8589934591) HT_.o ?_;refine pw_ 33 (some 47) (bb 38 17179869183) HT_.o ?_;refine pw_ 34 (some 48) (bb 38 34359738367) HT_.o ?_;refine pw_ 35 (some 49) (bb 38 68719476735) HT_.o ?_;refine pw_ 36 (some 50) (bb 38 137438953471) HT_.o ?_;refine pv_ 37 51 274877906943 HT_.o ?_;refine done_ (done_of HT_.o (by kernel_rfl)) ?_
    try go_wp2
    go_ret
    exact⟨rt_,be1_ HB.o G102.o⟩
   rw[iN c16]at H;have d16:decide (255<((rd_T81 l0 x9_1).f1))=false:=df_ c16;clear c16;by_cases c21:x9_1>0;rotate_left
   ·rw[iN c21]at H;have d21:decide (0<x9_1)=false:=df_ c21;clear c21;obtain⟨t105,A40,H⟩:=ob_ H;by_cases c41:t105=true;rotate_left
    ·replace c41:=Bool.eq_false_iff.mpr c41;subst c41;rw[iN nft_]at H;obtain rfl:=Option.some.inj H;refine start_ (n:=38) (S:=fun w'=>w'.cell? ⟨gb102,0,none⟩=some (.int .i64 ((rd_T81 l0 x9_1).f0))∧w'.cell? ⟨gb102,1,none⟩=some (.int .i64 ((rd_T81 l0 x9_1).f1))∧w'.cell? ⟨gb102,2,none⟩=some (.int .i64 ((rd_T81 l0 x9_1).f2))) (ds:=[]) (bb 38 0) (by kernel_rfl) rfl rfl ⟨(blk_cell Q102.o 0).trans rfl,(blk_cell Q102.o 1).trans rfl,(blk_cell Q102.o 2).trans rfl⟩ (fun hHeld=>?_);refine with_tabW impl_armsOk.tab4 impl_armsOk.bits4 (fun HT_ HW_=>?_);generalize w9.drew=w49 at Q102 HB hHeld ⊢;refine pv_ 0 14 1 HT_.o ?_;refine tv_ 1 15 3 HT_.o HW_.o hHeld ?_;refine pv_ 2 16 7 HT_.o ?_;refine pv_ 3 17 15 HT_.o ?_;refine pv_ 4 18 31 HT_.o ?_;refine pv_ 6 20 95 HT_.o ?_;refine tv_ 5 19 127 HT_.o HW_.o hHeld ?_;refine tv_ 7 21 255 HT_.o HW_.o hHeld ?_;refine pv_ 8 22 511 HT_.o ?_;refine pv_ 9 23 1023 HT_.o ?_;refine pv_ 10 24 2047 HT_.o ?_;refine pv_ 11 25 4095 HT_.o ?_;refine tv_ 12 26 8191 HT_.o HW_.o hHeld ?_;refine pv_ 13 27 16383 HT_.o ?_;refine pv_ 14 28 32767 HT_.o ?_;refine pv_ 15 29 65535 HT_.o ?_;refine pv_ 16 30 131071 HT_.o ?_;refine pv_ 17 31 262143 HT_.o ?_;refine pv_ 18 32 524287 HT_.o ?_;refine pw_ 19 (some 33) (bb 38 1048575) HT_.o ?_;refine pw_ 20 (some 34) (bb 38 2097151) HT_.o ?_;refine pw_ 21 (some 35) (bb 38 4194303) HT_.o ?_;refine pw_ 22 (some 36) (bb 38 8388607) HT_.o ?_;refine pw_ 23 (some 37) (bb 38 16777215) HT_.o ?_;refine pw_ 24 (some 38) (bb 38 33554431) HT_.o ?_;refine pw_ 25 (some 39) (bb 38 67108863) HT_.o ?_;refine pw_ 26 (some 40) (bb 38 134217727) HT_.o ?_;refine pw_ 27 (some 41) (bb 38 268435455) HT_.o ?_;refine pv_ 28 42 536870911 HT_.o ?_;refine pv_ 29 43 1073741823 HT_.o ?_;refine pv_ 30 44 2147483647 HT_.o ?_;refine pv_ 31 45 4294967295 HT_.o ?_;refine pv_ 33 47 12884901887 HT_.o ?_;refine pv_ 34 48 30064771071 HT_.o ?_;refine tv_ 32 46 34359738367 HT_.o HW_.o hHeld ?_;refine one_ (i:=35) (N:=some 49) (bb 38 68719476735) rfl rfl (one_of HT_.o (by kernel_rfl)) (by decide) (fun K hK=>?_);refine gs_ Try.func57 #[.int .i64 ((rd_T81 l0 x9_1).f2), .int .i64 0, .int .i64 (wrap64 (a1-1))] ?_
     with_reducible refine(impl_within.calls ((rd_T81 l0 x9_1).f2) 0 (wrap64 (a1-1)) false _ A40.o).mono ?_
     rintro e w' ⟨rfl,⟨nd,rfl⟩⟩;refine⟨_,rfl,?_⟩;refine hK.out _ _ ⟨(blk_cell Q102.o 0).trans rfl,(blk_cell Q102.o 1).trans rfl,(blk_cell Q102.o 2).trans rfl⟩ (fun hHeld=>?_);clear hK K;refine no_ (some 49) ?_;refine pv_ 36 50 137438953471 HT_.o ?_;refine pv_ 37 51 274877906943 HT_.o ?_;refine done_ (done_of HT_.o (by kernel_rfl)) ?_
     try go_wp2
     go_ret
     exact⟨rt_,be1_ HB.o G102.o⟩
    subst c41;rw[iP rfl]at H;have H':=q_ H;clear H;refine start_ (n:=38) (S:=fun w'=>w'.cell? ⟨gb102,0,none⟩=some (.int .i64 ((rd_T81 l0 x9_1).f0))∧w'.cell? ⟨gb102,1,none⟩=some (.int .i64 ((rd_T81 l0 x9_1).f1))∧w'.cell? ⟨gb102,2,none⟩=some (.int .i64 ((rd_T81 l0 x9_1).f2))) (ds:=[]) (bb 38 0) (by kernel_rfl) rfl rfl ⟨(blk_cell Q102.o 0).trans rfl,(blk_cell Q102.o 1).trans rfl,(blk_cell Q102.o 2).trans rfl⟩ (fun hHeld=>?_);refine with_tabW impl_armsOk.tab4 impl_armsOk.bits4 (fun HT_ HW_=>?_);generalize w9.drew=w45 at Q102 HB hHeld ⊢;refine pv_ 0 14 1 HT_.o ?_;refine tv_ 1 15 3 HT_.o HW_.o hHeld ?_;refine pv_ 2 16 7 HT_.o ?_;refine pv_ 3 17 15 HT_.o ?_;refine pv_ 4 18 31 HT_.o ?_;refine pv_ 6 20 95 HT_.o ?_;refine tv_ 5 19 127 HT_.o HW_.o hHeld ?_;refine tv_ 7 21 255 HT_.o HW_.o hHeld ?_;refine pv_ 8 22 511 HT_.o ?_;refine pv_ 9 23 1023 HT_.o ?_;refine pv_ 10 24 2047 HT_.o ?_;refine pv_ 11 25 4095 HT_.o ?_;refine tv_ 12 26 8191 HT_.o HW_.o hHeld ?_;refine pv_ 13 27 16383 HT_.o ?_;refine pv_ 14 28 32767 HT_.o ?_;refine pv_ 15 29 65535 HT_.o ?_;refine pv_ 16 30 131071 HT_.o ?_;refine pv_ 17 31 262143 HT_.o ?_;refine pv_ 18 32 524287 HT_.o ?_;refine pw_ 19 (some 33) (bb 38 1048575) HT_.o ?_;refine pw_ 20 (some 34) (bb 38 2097151) HT_.o ?_;refine pw_ 21 (some 35) (bb 38 4194303) HT_.o ?_;refine pw_ 22 (some 36) (bb 38 8388607) HT_.o ?_;refine pw_ 23 (some 37) (bb 38 16777215) HT_.o ?_;refine pw_ 24 (some 38) (bb 38 33554431) HT_.o ?_;refine pw_ 25 (some 39) (bb 38 67108863) HT_.o ?_;refine pw_ 26 (some 40) (bb 38 134217727) HT_.o ?_;refine pw_ 27 (some 41) (bb 38 268435455) HT_.o ?_;refine pv_ 28 42 536870911 HT_.o ?_;refine pv_ 29 43 1073741823 HT_.o ?_;refine pv_ 30 44 2147483647 HT_.o ?_;refine pv_ 31 45 4294967295 HT_.o ?_;refine pv_ 33 47 12884901887 HT_.o ?_;refine pv_ 34 48 30064771071 HT_.o ?_;refine tv_ 32 46 34359738367 HT_.o HW_.o hHeld ?_;refine one_ (i:=35) (N:=some 49) (bb 38 68719476735) rfl rfl (one_of HT_.o (by kernel_rfl)) (by decide) (fun K hK=>?_);refine gs_ Try.func57 #[.int .i64 ((rd_T81 l0 x9_1).f2), .int .i64 0, .int .i64 (wrap64 (a1-1))] ?_
    with_reducible refine(impl_within.calls ((rd_T81 l0 x9_1).f2) 0 (wrap64 (a1-1)) true _ A40.o).mono ?_
    rintro e w' ⟨rfl,⟨nd,rfl⟩⟩;refine⟨_,rfl,?_⟩;refine hK.out _ _ ⟨(blk_cell Q102.o 0).trans rfl,(blk_cell Q102.o 1).trans rfl,(blk_cell Q102.o 2).trans rfl⟩ (fun hHeld=>?_);clear hK K;refine no_ (some 49) ?_;refine pv_ 36 50 137438953471 HT_.o ?_;refine pv_ 37 51 274877906943 HT_.o ?_;refine done_ (done_of HT_.o (by kernel_rfl)) ?_
    try go_wp2
    go_roundg k1
    case measure=>have:=HK1.o;omega
    case rel=>exact⟨(wrap64 (x9_1+1)),rs_,H',⟨by have:=HK1.o;omega⟩,⟨be1_ HB.o G102.o⟩⟩
   rw[iP c21]at H;have d21:decide (0<x9_1)=true:=dt_ c21;clear c21;obtain⟨ji22,hji22⟩:∃j_:Int,(wrap64 (x9_1-1))=j_:=⟨_,rfl⟩;replace H:(if 0≤(ji22)then(if(ji22)<(l0.length:Int)then(if((rd_T81 l0 x9_1).f0)≤((rd_T81 l0 (ji22)).f1)then(some false)else((impl_within.f ((rd_T81 l0 x9_1).f2) 0 (wrap64 (a1-1))).bind fun t104=>(if t104=true then(impl_armsOk.l0 k1 l0 a1 l0 (l0.length:Int) (wrap64 (x9_1+1)))else(some false))))else(none))else(none))=some r:=by(rw[hji22]at H;exact H)
   have hji22w:(IntKind.i64.wrap (x9_1-1))=ji22:=(i64_w _).trans hji22;obtain⟨d23,H⟩:=iq_ H;obtain⟨d24,H⟩:=iq_ H;obtain⟨p103,q103⟩:=pq_ (ji22) (l0.length:Int);obtain⟨ad103,e103,X103_0,X103_1,X103_2⟩:=at_T81 HR0.o (ji22) p103 q103;have hw103_2:=X103_2;have hw103_1:=X103_1;have hw103_0:=X103_0;obtain rfl:ad101=ad103:=(by injection e103);replace X103_0:=mv_ HB.o X103_0;replace X103_1:=mv_ HB.o X103_1;replace X103_2:=mv_ HB.o X103_2;obtain⟨p103,q103⟩:=et_ p103 q103;by_cases c25:((rd_T81 l0 x9_1).f0)≤((rd_T81 l0 (ji22)).f1)
   ·rw[iP c25]at H;have d25:=dt_ c25;clear c25;obtain rfl:=Option.some.inj H;refine start_ (n:=38) (S:=fun w'=>w'.cell? ⟨gb102,0,none⟩=some (.int .i64 ((rd_T81 l0 x9_1).f0))∧w'.cell? ⟨gb102,1,none⟩=some (.int .i64 ((rd_T81 l0 x9_1).f1))∧w'.cell? ⟨gb102,2,none⟩=some (.int .i64 ((rd_T81 l0 x9_1).f2))∧w'.cell? (ad101.add (((ji22)).toNat*3))=some (.int .i64 ((rd_T81 l0 (ji22)).f0))∧w'.cell? ⟨(ad101.add (((ji22)).toNat*3)).block,(ad101.add (((ji22)).toNat*3)).off+1,none⟩=some (.int .i64 ((rd_T81 l0 (ji22)).f1))∧w'.cell? ⟨(ad101.add (((ji22)).toNat*3)).block,(ad101.add (((ji22)).toNat*3)).off+2,none⟩=some (.int .i64 ((rd_T81 l0 (ji22)).f2))) (ds:=[]) (bb 38 0) (by kernel_rfl) rfl rfl ⟨(blk_cell Q102.o 0).trans rfl,(blk_cell Q102.o 1).trans rfl,(blk_cell Q102.o 2).trans rfl,(mv_ HB.o hw103_0),(mv_ HB.o hw103_1),(mv_ HB.o hw103_2)⟩ (fun hHeld=>?_);refine with_tabW impl_armsOk.tab4 impl_armsOk.bits4 (fun HT_ HW_=>?_);generalize w9.drew=w29 at Q102 HB X103_0 X103_1 X103_2 hHeld ⊢;refine pv_ 0 14 1 HT_.o ?_;refine tv_ 1 15 3 HT_.o HW_.o hHeld ?_;refine pv_ 2 16 7 HT_.o ?_;refine pv_ 3 17 15 HT_.o ?_;refine pv_ 4 18 31 HT_.o ?_;refine pv_ 6 20 95 HT_.o ?_;refine tv_ 5 19 127 HT_.o HW_.o hHeld ?_;refine tv_ 7 21 255 HT_.o HW_.o hHeld ?_;refine pv_ 8 22 511 HT_.o ?_;refine pv_ 9 23 1023 HT_.o ?_;refine pv_ 10 24 2047 HT_.o ?_;refine pv_ 11 25 4095 HT_.o ?_;refine tv_ 12 26 8191 HT_.o HW_.o hHeld ?_;refine pv_ 13 27 16383 HT_.o ?_;refine pv_ 14 28 32767 HT_.o ?_;refine pv_ 15 29 65535 HT_.o ?_;refine pv_ 16 30 131071 HT_.o ?_;refine pv_ 17 31 262143 HT_.o ?_;refine pv_ 18 32 524287 HT_.o ?_;refine pv_ 19 33 1048575 HT_.o ?_;refine pv_ 21 35 3145727 HT_.o ?_;refine pv_ 22 36 7340031 HT_.o ?_;refine pv_ 23 37 15728639 HT_.o ?_;refine pv_ 24 38 32505855 HT_.o ?_;refine pv_ 25 39 66060287 HT_.o ?_;refine tv_ 20 34 67108863 HT_.o HW_.o hHeld ?_;refine tv_ 26 40 134217727 HT_.o HW_.o hHeld ?_;refine pv_ 27 41 268435455 HT_.o ?_;refine pv_ 28 42 536870911 HT_.o ?_;refine pv_ 29 43 1073741823 HT_.o ?_;refine pv_ 30 44 2147483647 HT_.o ?_;refine pw_ 31 (some 45) (bb 38 4294967295) HT_.o ?_;refine pw_ 32 (some 46) (bb 38 8589934591) HT_.o ?_;refine pw_ 33 (some 47) (bb 38 17179869183) HT_.o ?_;refine pw_ 34 (some 48) (bb 38 34359738367) HT_.o ?_;refine pw_ 35 (some 49) (bb 38 68719476735) HT_.o ?_;refine pw_ 36 (some 50) (bb 38 137438953471) HT_.o ?_;refine pv_ 37 51 274877906943 HT_.o ?_;refine done_ (done_of HT_.o (by kernel_rfl)) ?_
    try go_wp2
    go_ret
    exact⟨by rfl,be1_ HB.o G102.o⟩
   rw[iN c25]at H;have d25:=df_ c25;clear c25;obtain⟨t104,A30,H⟩:=ob_ H;by_cases c31:t104=true;rotate_left
   ·replace c31:=Bool.eq_false_iff.mpr c31;subst c31;rw[iN nft_]at H;obtain rfl:=Option.some.inj H;refine start_ (n:=38) (S:=fun w'=>w'.cell? ⟨gb102,0,none⟩=some (.int .i64 ((rd_T81 l0 x9_1).f0))∧w'.cell? ⟨gb102,1,none⟩=some (.int .i64 ((rd_T81 l0 x9_1).f1))∧w'.cell? ⟨gb102,2,none⟩=some (.int .i64 ((rd_T81 l0 x9_1).f2))∧w'.cell? (ad101.add (((ji22)).toNat*3))=some (.int .i64 ((rd_T81 l0 (ji22)).f0))∧w'.cell? ⟨(ad101.add (((ji22)).toNat*3)).block,(ad101.add (((ji22)).toNat*3)).off+1,none⟩=some (.int .i64 ((rd_T81 l0 (ji22)).f1))∧w'.cell? ⟨(ad101.add (((ji22)).toNat*3)).block,(ad101.add (((ji22)).toNat*3)).off+2,none⟩=some (.int .i64 ((rd_T81 l0 (ji22)).f2))) (ds:=[]) (bb 38 0) (by kernel_rfl) rfl rfl ⟨(blk_cell Q102.o 0).trans rfl,(blk_cell Q102.o 1).trans rfl,(blk_cell Q102.o 2).trans rfl,(mv_ HB.o hw103_0),(mv_ HB.o hw103_1),(mv_ HB.o hw103_2)⟩ (fun hHeld=>?_);refine with_tabW impl_armsOk.tab4 impl_armsOk.bits4 (fun HT_ HW_=>?_);generalize w9.drew=w39 at Q102 HB X103_0 X103_1 X103_2 hHeld ⊢;refine pv_ 0 14 1 HT_.o ?_;refine tv_ 1 15 3 HT_.o HW_.o hHeld ?_;refine pv_ 2 16 7 HT_.o ?_;refine pv_ 3 17 15 HT_.o ?_;refine pv_ 4 18 31 HT_.o ?_;refine pv_ 6 20 95 HT_.o ?_;refine tv_ 5 19 127 HT_.o HW_.o hHeld ?_;refine tv_ 7 21 255 HT_.o HW_.o hHeld ?_;refine pv_ 8 22 511 HT_.o ?_;refine pv_ 9 23 1023 HT_.o ?_;refine pv_ 10 24 2047 HT_.o ?_;refine pv_ 11 25 4095 HT_.o ?_;refine tv_ 12 26 8191 HT_.o HW_.o hHeld ?_;refine pv_ 13 27 16383 HT_.o ?_;refine pv_ 14 28 32767 HT_.o ?_;refine pv_ 15 29 65535 HT_.o ?_;refine pv_ 16 30 131071 HT_.o ?_;refine pv_ 17 31 262143 HT_.o ?_;refine pv_ 18 32 524287 HT_.o ?_;refine pv_ 19 33 1048575 HT_.o ?_;refine pv_ 21 35 3145727 HT_.o ?_;refine pv_ 22 36 7340031 HT_.o ?_;refine pv_ 23 37 15728639 HT_.o ?_;refine pv_ 24 38 32505855 HT_.o ?_;refine pv_ 25 39 66060287 HT_.o ?_;refine tv_ 20 34 67108863 HT_.o HW_.o hHeld ?_;refine tv_ 26 40 134217727 HT_.o HW_.o hHeld ?_;refine pv_ 27 41 268435455 HT_.o ?_;refine pv_ 28 42 536870911 HT_.o ?_;refine pv_ 29 43 1073741823 HT_.o ?_;refine pv_ 30 44 2147483647 HT_.o ?_;refine pv_ 31 45 4294967295 HT_.o ?_;refine pv_ 33 47 12884901887 HT_.o ?_;refine pv_ 34 48 30064771071 HT_.o ?_;refine tv_ 32 46 34359738367 HT_.o HW_.o hHeld ?_;refine one_ (i:=35) (N:=some 49) (bb 38 68719476735) rfl rfl (one_of HT_.o (by kernel_rfl)) (by decide) (fun K hK=>?_);refine gs_ Try.func57 #[.int .i64 ((rd_T81 l0 x9_1).f2), .int .i64 0, .int .i64 (wrap64 (a1-1))] ?_
    with_reducible refine(impl_within.calls ((rd_T81 l0 x9_1).f2) 0 (wrap64 (a1-1)) false _ A30.o).mono ?_
    rintro e w' ⟨rfl,⟨nd,rfl⟩⟩;refine⟨_,rfl,?_⟩;refine hK.out _ _ ⟨(blk_cell Q102.o 0).trans rfl,(blk_cell Q102.o 1).trans rfl,(blk_cell Q102.o 2).trans rfl,(mv_ HB.o hw103_0),(mv_ HB.o hw103_1),(mv_ HB.o hw103_2)⟩ (fun hHeld=>?_);clear hK K;refine no_ (some 49) ?_;refine pv_ 36 50 137438953471 HT_.o ?_;refine pv_ 37 51 274877906943 HT_.o ?_;refine done_ (done_of HT_.o (by kernel_rfl)) ?_
    try go_wp2
    go_ret
    exact⟨by rfl,be1_ HB.o G102.o⟩
   subst c31;rw[iP rfl]at H;have H':=q_ H;clear H;refine start_ (n:=38) (S:=fun w'=>w'.cell? ⟨gb102,0,none⟩=some (.int .i64 ((rd_T81 l0 x9_1).f0))∧w'.cell? ⟨gb102,1,none⟩=some (.int .i64 ((rd_T81 l0 x9_1).f1))∧w'.cell? ⟨gb102,2,none⟩=some (.int .i64 ((rd_T81 l0 x9_1).f2))∧w'.cell? (ad101.add (((ji22)).toNat*3))=some (.int .i64 ((rd_T81 l0 (ji22)).f0))∧w'.cell? ⟨(ad101.add (((ji22)).toNat*3)).block,(ad101.add (((ji22)).toNat*3)).off+1,none⟩=some (.int .i64 ((rd_T81 l0 (ji22)).f1))∧w'.cell? ⟨(ad101.add (((ji22)).toNat*3)).block,(ad101.add (((ji22)).toNat*3)).off+2,none⟩=some (.int .i64 ((rd_T81 l0 (ji22)).f2))) (ds:=[]) (bb 38 0) (by kernel_rfl) rfl rfl ⟨(blk_cell Q102.o 0).trans rfl,(blk_cell Q102.o 1).trans rfl,(blk_cell Q102.o 2).trans rfl,(mv_ HB.o hw103_0),(mv_ HB.o hw103_1),(mv_ HB.o hw103_2)⟩ (fun hHeld=>?_);refine with_tabW impl_armsOk.tab4 impl_armsOk.bits4 (fun HT_ HW_=>?_);generalize w9.drew=w35 at Q102 HB X103_0 X103_1 X103_2 hHeld ⊢;refine pv_ 0 14 1 HT_.o ?_;refine tv_ 1 15 3 HT_.o HW_.o hHeld ?_;refine pv_ 2 16 7 HT_.o ?_;refine pv_ 3 17 15 HT_.o ?_;refine pv_ 4 18 31 HT_.o ?_;refine pv_ 6 20 95 HT_.o ?_;refine tv_ 5 19 127 HT_.o HW_.o hHeld ?_;refine tv_ 7 21 255 HT_.o HW_.o hHeld ?_;refine pv_ 8 22 511 HT_.o ?_;refine pv_ 9 23 1023 HT_.o ?_;refine pv_ 10 24 2047 HT_.o ?_;refine pv_ 11 25 4095 HT_.o ?_;refine tv_ 12 26 8191 HT_.o HW_.o hHeld ?_;refine pv_ 13 27 16383 HT_.o ?_;refine pv_ 14 28 32767 HT_.o ?_;refine pv_ 15 29 65535 HT_.o ?_;refine pv_ 16 30 131071 HT_.o ?_;refine pv_ 17 31 262143 HT_.o ?_;refine pv_ 18 32 524287 HT_.o ?_;refine pv_ 19 33 1048575 HT_.o ?_;refine pv_ 21 35 3145727 HT_.o ?_;refine pv_ 22 36 7340031 HT_.o ?_;refine pv_ 23 37 15728639 HT_.o ?_;refine pv_ 24 38 32505855 HT_.o ?_;refine pv_ 25 39 66060287 HT_.o ?_;refine tv_ 20 34 67108863 HT_.o HW_.o hHeld ?_;refine tv_ 26 40 134217727 HT_.o HW_.o hHeld ?_;refine pv_ 27 41 268435455 HT_.o ?_;refine pv_ 28 42 536870911 HT_.o ?_;refine pv_ 29 43 1073741823 HT_.o ?_;refine pv_ 30 44 2147483647 HT_.o ?_;refine pv_ 31 45 4294967295 HT_.o ?_;refine pv_ 33 47 12884901887 HT_.o ?_;refine pv_ 34 48 30064771071 HT_.o ?_;refine tv_ 32 46 34359738367 HT_.o HW_.o hHeld ?_;refine one_ (i:=35) (N:=some 49) (bb 38 68719476735) rfl rfl (one_of HT_.o (by kernel_rfl)) (by decide) (fun K hK=>?_);refine gs_ Try.func57 #[.int .i64 ((rd_T81 l0 x9_1).f2), .int .i64 0, .int .i64 (wrap64 (a1-1))] ?_
   with_reducible refine(impl_within.calls ((rd_T81 l0 x9_1).f2) 0 (wrap64 (a1-1)) true _ A30.o).mono ?_
   rintro e w' ⟨rfl,⟨nd,rfl⟩⟩;refine⟨_,rfl,?_⟩;refine hK.out _ _ ⟨(blk_cell Q102.o 0).trans rfl,(blk_cell Q102.o 1).trans rfl,(blk_cell Q102.o 2).trans rfl,(mv_ HB.o hw103_0),(mv_ HB.o hw103_1),(mv_ HB.o hw103_2)⟩ (fun hHeld=>?_);clear hK K;refine no_ (some 49) ?_;refine pv_ 36 50 137438953471 HT_.o ?_;refine pv_ 37 51 274877906943 HT_.o ?_;refine done_ (done_of HT_.o (by kernel_rfl)) ?_
   try go_wp2
   go_roundg k1
   case measure=>have:=HK1.o;omega
   case rel=>exact⟨(wrap64 (x9_1+1)),rs_,H',⟨by have:=HK1.o;omega⟩,⟨be1_ HB.o G102.o⟩⟩
end Go.Proofs.Ytlecpdpdcocibaa.P
namespace Go.Proofs.Ytlecpdpdcocibaa.P
open Go.RowKit Go.Proofs.YtlecpdpdcocibaaW.PrintWords Go.Proofs.YtlecpdpdcocibaaW.PrintLast Go.Proofs.YtlecpdpdcocibaaEv
set_option linter.unusedVariables false
set_option linter.unusedSimpArgs false
def armsR(many:Int):Int→List S81→Bool
 | _,[]=>true
 |last,a :: rest=>decide (0≤a.f0)&&decide (a.f0≤a.f1)&&decide (a.f1≤255)&&decide (last<a.f0)&&decide (0≤a.f2∧a.f2≤many-1)&&armsR many a.f1 rest
def armsB(many:Int)(l:List S81):Bool:=armsR many (-1) l
theorem impl_armsOk_ev(l:List S81)(many:Int)(h0:1≤many)(h1:many≤1000)(hl:l.length≤9223372036854775807):Ev (fun k=>impl_armsOk.f k l many) (armsB many l):=by
  unfold impl_armsOk.f;have key:=down l.length (fun i=>∀last:Int,(i=0→last= -1)→(0<i→last=(rd_T81 l ((i-1:Nat):Int)).f1)→Ev (fun k=>impl_armsOk.l0 k l many l l.length (i:Nat)) (armsR many last (l.drop i))) ?_ ?_ 0 (by omega) (-1) (fun _=>rfl) (by omega)
  ·exact key
  ·intro last _ _
   rw[ev_succ];simp[impl_armsOk.l0,ev_some,armsR]
  · intro i hi ih last hl0 hl1
    rw[ev_succ,drop_cons l z81 i hi];have hr:l.getD i z81=rd_T81 l i:=by simp[rd_T81]
    rw[hr];have ih2:=ih (rd_T81 l i).f1 (by omega) (fun _=>by rw[Nat.add_sub_cancel]);simp only[impl_armsOk.l0,impl_within_eq,Option.bind_some,ev_ite,ev_some,armsR];rw[iP (by omega),iP (by omega),iP (by omega),wrap_succ hi (by omega),wrap_id (x:=many-1) (by omega) (by omega)];have hprev:0<i→(0≤wrap64 ((i:Int)-1)∧wrap64 ((i:Int)-1)<l.length∧(rd_T81 l (wrap64 ((i:Int)-1))).f1=last):=by
     intro hp;rw[wrap_id (x:=(i:Int)-1) (by omega) (by omega)];exact⟨by omega,by omega,by rw[hl1 hp,show((i:Int)-1)=((i-1:Nat):Int) by omega]⟩
    generalize(l.drop (i+1))=T at *;generalize rd_T81 l (i:Int)=a at *;generalize hG:(fun k=>impl_armsOk.l0 k l many l (l.length:Int) ((i+1:Nat):Int))=G at *;by_cases c1:a.f0<0
    ·rw[iP c1];simp;omega
    rw[iN c1];by_cases c2:a.f0>a.f1
    ·rw[iP c2];simp;omega
    rw[iN c2];by_cases c3:a.f1>255
    ·rw[iP c3];simp;omega
    rw [iN c3];have hend:(last<a.f0)→(if decide (0≤a.f2∧a.f2≤many-1)=true then Ev G (decide (0≤a.f0)&&decide (a.f0≤a.f1)&&decide (a.f1≤255)&&decide (last<a.f0)&&decide (0≤a.f2∧a.f2≤many-1)&&armsR many a.f1 T)else false=(decide (0≤a.f0)&&decide (a.f0≤a.f1)&&decide (a.f1≤255)&&decide (last<a.f0)&&decide (0≤a.f2∧a.f2≤many-1)&&armsR many a.f1 T)):=by
      intro h5;by_cases c4:0≤a.f2∧a.f2≤many-1
      · rw[iP (by simpa using c4)]
        refine ev_congr ih2 ?_;simp[c4,show 0≤a.f0 by omega,show a.f0≤a.f1 by omega,show a.f1≤255 by omega,h5]
      · rw[iN (by simpa using c4)]
        simp[c4]
    by_cases h00:i=0
    ·rw[iN (by omega)]
     exact hend (by have:=hl0 h00;omega)
    · obtain⟨h1',h2',h3'⟩:=hprev (by omega)
      rw[iP (by omega),iP h1',iP h2',h3'];by_cases c5:a.f0≤last
      ·rw[iP c5];simp;omega
      · rw[iN c5]
        exact hend (by omega)
def blockB(many:Int)(b:S79):Bool:=decide (-1≤b.f0∧b.f0≤39)&&decide (0≤b.f2∧b.f2≤many-1)&&armsB many b.f1
def codeB(l:List S79):Bool:=decide (1≤l.length)&&decide (l.length≤1000)&&l.all (blockB l.length)
end Go.Proofs.Ytlecpdpdcocibaa.P
namespace Go.Proofs.Ytlecpdpdcocibaa.P
open Go.RowKit Go.Proofs.YtlecpdpdcocibaaW.PrintWords Go.Proofs.YtlecpdpdcocibaaW.PrintLast Go.Proofs.YtlecpdpdcocibaaW.PrintMore
attribute [local go_sem] max2_int min2_int max_two min_two max_three min_three max_four min_four
set_option linter.unusedVariables false
set_option linter.unusedSimpArgs false
def impl_CBlock_61.f(l0:List (S79)):Option (Int):=some (l0.length:Int)
theorem impl_CBlock_61.calls(A0:Option Addr)(c0:Nat)(l0:List (S79))(r:Int)(w:World)(hr0:Kd.C k79 w A0 l0.length l0)(hc0:l0.length≤c0)(h:impl_CBlock_61.f l0=some r):
  Calls Try.prog 61 #[.slice A0 l0.length c0] w fun e w'=>e= .returned (.int .i64 r)∧Drawn0 w w':=by
 have HR0:=q_ hr0;have HC0:=q_ hc0;clear hr0 hc0;have H:(some (l0.length:Int))=some r:=h;clear h;obtain rfl:=Option.some.inj H;go_enter Try.func61,Try.ntmps61;go_wp2
 go_ret
 exact⟨by rfl,by repeat(exact Drawn0.refl _)⟩
end Go.Proofs.Ytlecpdpdcocibaa.P
namespace Go.Proofs.Ytlecpdpdcocibaa.P
open Go.RowKit Go.Shelf Go.Proofs.YtlecpdpdcocibaaW.PrintWords Go.Proofs.YtlecpdpdcocibaaW.PrintLast Go.Proofs.YtlecpdpdcocibaaW.PrintMore Go.Proofs.YtlecpdpdcocibaaEv
set_option linter.unusedVariables false
set_option linter.unusedSimpArgs false
theorem IndexFunc_CBlock(g:Nat)(lb:Array Value)(eg:∀args w,(callFunc g args).run Try.prog w= .ok (.enter g args) w)(p:S79→Bool)(A0:Option Addr)(c0:Nat)(l0:List S79)(w:World)(hr0:Kd.C k79 w A0 l0.length l0)
    (hp:∀(W:World) (x:S79) (A:Option Addr) (c:Nat),x∈l0→Below w.heap.size w W→Kd.C k81 W A x.f1.length x.f1→x.f1.length≤c→Calls Try.prog g (#[.agg #[.int .i64 x.f0, .slice A x.f1.length c, .int .i64 x.f2]]++lb) W fun e w'=>e= .returned (.bool (p x))∧Below W.heap.size W w'):
    Calls Try.prog 109 #[.slice A0 l0.length c0, .func (.func g) #[] lb] w fun e w'=>e= .returned (.int .i64 (idxP p l0 0))∧Below w.heap.size w w':=by
  have hn:=hr0.2.1;have HP:=Lib.hid hp;clear hp;have HR:=q_ hr0;clear hr0;go_enter Try.func109,Try.ntmps109;go_wp2
  go_loopg [5,8] l0.length (fun gg _ s8 wr=>∃kk:Nat,kk≤l0.length∧l0.length-kk≤gg∧s8= .int .i64 kk∧J0 (Below w.heap.size w wr)∧J0 (idxP p l0 0=idxP p (l0.drop kk) kk))
  case atStart=>exact⟨0,Nat.zero_le _,by omega,rfl,⟨Below.refl _ w⟩,⟨by simp⟩⟩
  case round=>
    obtain⟨kk,hkk,hg,rfl,BW,HA⟩:=hrel;by_cases hlt:kk<l0.length
    · have hltz:(kk:Int)<(l0.length:Int):=by omega
      obtain⟨ad,A1,c1,rfl,hx0,hx1,hx2,hl1,hi1⟩:=at_T79 HR.o (kk:Int) (by omega) hltz;rw[Int.toNat_natCast]at hx0 hx1 hx2;replace hx0:=(BW.o.cell (World.block_lt_of_cell? w _ hx0)).trans hx0;replace hx1:=(BW.o.cell (World.block_lt_of_cell? w _ hx1)).trans hx1;replace hx2:=(BW.o.cell (World.block_lt_of_cell? w _ hx2)).trans hx2;have hmem:rd_T79 l0 (kk:Int)∈l0:=by
        unfold rd_T79;rw[List.getD_eq_getElem?_getD,List.getElem?_eq_getElem (by simpa using hlt)];exact List.getElem_mem _
      have hcall:=HP.out wr (rd_T79 l0 (kk:Int)) A1 c1 hmem BW.o (Kd.C_below hi1 BW.o) hl1;have hstep:J0 (idxP p l0 0=if p (rd_T79 l0 (kk:Int))then(kk:Int)else idxP p (l0.drop (kk+1)) ((kk+1:Nat):Int)):=⟨by
        rw[HA.o,drop_cons l0 z79 kk hlt];have hr:l0.getD kk z79=rd_T79 l0 (kk:Int):=by simp[rd_T79]
        rw[hr];rfl⟩
      clear hmem hi1 hl1;generalize rd_T79 l0 (kk:Int)=y at *;cases hq:p y with
      | true=>
        rw[hq]at hcall;have hs2:J0 (idxP p l0 0=(kk:Int)):=⟨by rw[hstep.o,hq];rfl⟩;clear hstep hq HA
        go_wp2_with(go_at_fn g;refine hcall.mono ?_;rintro e w' ⟨rfl,hb'⟩)
        go_ret
        exact⟨by(rw[hs2.o];try rfl),below_then BW.o BW.o.size hb'⟩
      | false=>
        rw[hq]at hcall;have hs2:J0 (idxP p l0 0=idxP p (l0.drop (kk+1)) ((kk+1:Nat):Int)):=⟨by rw[hstep.o,hq];rfl⟩;clear hstep hq HA
        go_wp2_with(go_at_fn g;refine hcall.mono ?_;rintro e w' ⟨rfl,hb'⟩)
        go_roundg (l0.length-(kk+1))
        case measure=>omega
        case rel=>exact⟨kk+1,by omega,by omega,by go_num,⟨below_then BW.o BW.o.size hb'⟩,hs2⟩
    ·have hltz:¬(kk:Int)<(l0.length:Int):=by omega
     have hk:kk=l0.length:=by omega
     have hs2:J0 (idxP p l0 0= -1):=⟨by rw[HA.o,hk];simp[idxP]⟩;clear hk HA;go_wp2
     go_ret
     exact⟨by(rw[hs2.o];try rfl),BW.o⟩
theorem ContainsFunc_CBlock(g:Nat)(lb:Array Value)(eg:∀args w,(callFunc g args).run Try.prog w= .ok (.enter g args) w)(p:S79→Bool)(A0:Option Addr)(c0:Nat)(l0:List S79)(w:World)(hr0:Kd.C k79 w A0 l0.length l0)
   (hp:∀(W:World) (x:S79) (A:Option Addr) (c:Nat),x∈l0→Below w.heap.size w W→Kd.C k81 W A x.f1.length x.f1→x.f1.length≤c→Calls Try.prog g (#[.agg #[.int .i64 x.f0, .slice A x.f1.length c, .int .i64 x.f2]]++lb) W fun e w'=>e= .returned (.bool (p x))∧Below W.heap.size W w'):
   Calls Try.prog 62 #[.slice A0 l0.length c0, .func (.func g) #[] lb] w fun e w'=>e= .returned (.bool (l0.any p))∧Below w.heap.size w w':=by
 have hc:=IndexFunc_CBlock g lb eg p A0 c0 l0 w hr0 hp;have ha:l0.any p=decide (0≤idxP p l0 0):=by
  rw[Bool.eq_iff_iff,decide_eq_true_iff,idxP_ge p l0 0 (by omega)]
 rw[ha];clear ha hr0 hp;generalize idxP p l0 0=i at hc ⊢;go_enter Try.func62,Try.ntmps62
 go_wp2_with(go_at_call 109;refine hc.mono ?_;rintro e w' ⟨rfl,hb'⟩)
 go_ret
 exact⟨rfl,hb'⟩
theorem CodeOk_1_calls(many:Int)(h0:1≤many)(h1:many≤1000)(B:Nat)(W:World)(hB:B<W.heap.size)(hcell:W.cell? ⟨B,0,none⟩=some (.int .i64 many))(x:S79)(A:Option Addr)(c:Nat)(hx:Kd.C k81 W A x.f1.length x.f1)(hc:x.f1.length≤c):
   Calls Try.prog 63 #[.agg #[.int .i64 x.f0, .slice A x.f1.length c, .int .i64 x.f2], .pointer (some ⟨B,0,none⟩)] W fun e w'=>e= .returned (.bool (!blockB many x))∧Below W.heap.size W w':=by
 have hl:=hx.2.1;obtain⟨k,hk⟩:=ev_get (impl_armsOk_ev x.f1 many h0 h1 hl);unfold blockB;have hw1:=q_ (impl_within_eq x.f0 (-1) 39);have hw2:=q_ (impl_within_eq x.f2 0 (many-1));generalize decide (-1≤x.f0∧x.f0≤39)=b1 at hw1 ⊢;generalize decide (0≤x.f2∧x.f2≤many-1)=b2 at hw2 ⊢;generalize armsB many x.f1=b3 at hk ⊢;have HX:=q_ hx;have HC:=q_ hc;have HK:=q_ hk;clear hx hc hk;have hne:B≠W.heap.size:=by omega
 have hb0:Below W.heap.size W (W.alloc (.cells #[.int .i64 x.f0, .slice A x.f1.length c, .int .i64 x.f2] 79)):=(Below.refl _ _).alloc (Nat.le_refl _) _;cases b1 with
 | false=>
   go_enter Try.func63,Try.ntmps63
   go_wp2_with(go_at_call 57;refine(impl_within.calls _ _ _ _ _ hw1.o).mono ?_;rintro e w' ⟨rfl,⟨nd,rfl⟩⟩)
   go_ret
   exact⟨rfl,by repeat(first|exact hb0|apply pw_below_drewN|apply below_drew1)⟩
 | true=>
   cases b2 with
   | false=>
     go_enter Try.func63,Try.ntmps63
     go_wp2_with fail
     refine(impl_within.calls _ _ _ _ _ hw1.o).mono ?_;rintro e w' ⟨rfl,⟨nd,rfl⟩⟩
     go_wp2_with fail
     refine(impl_within.calls _ _ _ _ _ hw2.o).mono ?_;rintro e w' ⟨rfl,⟨nd2,rfl⟩⟩
     go_wp2_with fail
     go_ret
     exact⟨rfl,by repeat(first|exact hb0|apply pw_below_drewN|apply below_drew1)⟩
   | true=>
     go_enter Try.func63,Try.ntmps63
     go_wp2_with fail
     refine(impl_within.calls _ _ _ _ _ hw1.o).mono ?_;rintro e w' ⟨rfl,⟨nd,rfl⟩⟩
     go_wp2_with fail
     refine(impl_within.calls _ _ _ _ _ hw2.o).mono ?_;rintro e w' ⟨rfl,⟨nd2,rfl⟩⟩
     go_wp2_with fail
     refine(impl_armsOk.calls k _ _ x.f1 many b3 _ ?side1 HC.o HK.o).mono ?_
     case side1=>exact Kd.C_below HX.o (by repeat(first|exact hb0|apply pw_below_drewN|apply below_drew1))
     rintro e w' ⟨rfl,hb2⟩
     go_wp2_with fail
     go_ret
     exact⟨rfl,below_step (by repeat(first|exact hb0|apply pw_below_drewN|apply below_drew1)) hb2⟩
theorem CodeOk_hand(A0:Option Addr)(c0:Nat)(l0:List S79)(w:World)(hr0:Kd.C k79 w A0 l0.length l0)(hc0:l0.length≤c0):
    Calls Try.prog 21 #[.agg #[.slice A0 l0.length c0]] w fun e w'=>e= .returned (.bool (codeB l0))∧Below w.heap.size w w':=by
  have HR:=q_ hr0;have HC:=q_ hc0;have hw1:=q_ (impl_within_eq (l0.length:Int) 1 1000);have hsz:=q_ (show impl_CBlock_61.f l0=some (l0.length:Int)from rfl);clear hr0 hc0;have eg:∀args w,(callFunc 63 args).run Try.prog w= .ok (.enter 63 args) w:=enters_of Try.func63 (by kernel_rfl) rfl;by_cases hs:1≤l0.length∧l0.length≤1000
  · have hd:decide ((1:Int)≤(l0.length:Int)∧(l0.length:Int)≤1000)=true:=decide_eq_true (by omega)
    rw[hd]at hw1;have hcode:codeB l0= !(l0.any fun b=> !blockB l0.length b):=by
     unfold codeB;rw[decide_eq_true hs.1,decide_eq_true hs.2,Bool.true_and,Bool.true_and,List.all_eq_not_any_not]
    rw[hcode];have HS:=q_ hs;clear hs hd hcode;go_enter Try.func21,Try.ntmps21
    go_wp2_with fail
    refine(impl_CBlock_61.calls _ _ l0 _ _ ?side1 HC.o hsz.o).mono ?_
    case side1=>exact Kd.C_below HR.o (by repeat(first|exact Below.refl _ _|apply below_alloc|apply pw_below_drewN|apply below_drew1))
    rintro e w' ⟨rfl,⟨nd,rfl⟩⟩
    go_wp2_with fail
    refine(impl_within.calls _ _ _ _ _ hw1.o).mono ?_;rintro e w' ⟨rfl,⟨nd2,rfl⟩⟩
    go_wp2_with fail
    refine(ContainsFunc_CBlock 63 #[.pointer (some ⟨w.heap.size+1,0,none⟩)] eg (fun b=> !blockB l0.length b) _ _ l0 _ ?hr ?hp).mono ?_
    case hr=>exact Kd.C_below HR.o (by repeat(first|exact Below.refl _ _|apply below_alloc|apply pw_below_drewN|apply below_drew1))
    case hp=>
      intro W x A c hx hW hk hc;refine CodeOk_1_calls l0.length (by have:=HS.o;omega) (by have:=HS.o;omega) (w.heap.size+1) W ?_ ?_ x A c hk hc
      · have:=hW.size
        simp at this;omega
      · refine(hW.cell (p:=⟨w.heap.size+1,0,none⟩) (by simp)).trans ?_
        go_simp
    rintro e w' ⟨rfl,hb⟩
    go_wp2_with fail
    go_ret
    exact⟨rfl,below_step (by repeat(first|exact Below.refl _ _|apply below_alloc|apply pw_below_drewN|apply below_drew1)) hb⟩
  ·have hd:decide ((1:Int)≤(l0.length:Int)∧(l0.length:Int)≤1000)=false:=decide_eq_false (by omega)
   rw[hd]at hw1;have hcode:codeB l0=false:=by
    unfold codeB;by_cases h1:1≤l0.length
    ·simp[h1,show ¬l0.length≤1000 by omega]
    ·simp[h1]
   rw[hcode];clear hs hd hcode;go_enter Try.func21,Try.ntmps21
   go_wp2_with fail
   refine(impl_CBlock_61.calls _ _ l0 _ _ ?side1 HC.o hsz.o).mono ?_
   case side1=>exact Kd.C_below HR.o (by repeat(first|exact Below.refl _ _|apply below_alloc|apply pw_below_drewN|apply below_drew1))
   rintro e w' ⟨rfl,⟨nd,rfl⟩⟩
   go_wp2_with fail
   refine(impl_within.calls _ _ _ _ _ hw1.o).mono ?_;rintro e w' ⟨rfl,⟨nd2,rfl⟩⟩
   go_wp2_with fail
   go_ret
   exact⟨rfl,by repeat(first|exact Below.refl _ _|apply below_alloc|apply pw_below_drewN|apply below_drew1)⟩
end Go.Proofs.Ytlecpdpdcocibaa.P
namespace Go.Proofs.Ytlecpdpdcocibaa.P
open Go.RowKit Go.Proofs.YtlecpdpdcocibaaW.PrintWords Go.Proofs.YtlecpdpdcocibaaW.PrintLast Go.Proofs.YtlecpdpdcocibaaW.PrintMore
attribute [local go_sem] max2_int min2_int max_two min_two max_three min_three max_four min_four
set_option linter.unusedVariables false
set_option linter.unusedSimpArgs false
def impl_CodeOk.f(l0_0:List (S79)):Option (Bool):=some (codeB l0_0)
theorem impl_CodeOk.calls(A0_0:Option Addr)(c0_0:Nat)(l0_0:List (S79))(r:Bool)(w:World)(hr0_0:Kd.C k79 w A0_0 l0_0.length l0_0)(hc0_0:l0_0.length≤c0_0)(h:impl_CodeOk.f l0_0=some r):
    Calls Try.prog 21 #[.agg #[.slice A0_0 l0_0.length c0_0]] w fun e w'=>e= .returned (.bool r)∧Below w.heap.size w w':=by
 obtain rfl:=Option.some.inj h;exact CodeOk_hand A0_0 c0_0 l0_0 w hr0_0 hc0_0
def impl_Arm.f(l0:List (S81)):Option (Int):=some (l0.length:Int)
theorem impl_Arm.calls(A0:Option Addr)(c0:Nat)(l0:List (S81))(r:Int)(w:World)(hr0:Kd.C k81 w A0 l0.length l0)(hc0:l0.length≤c0)(h:impl_Arm.f l0=some r):
  Calls Try.prog 112 #[.slice A0 l0.length c0] w fun e w'=>e= .returned (.int .i64 r)∧Drawn0 w w':=by
 have HR0:=q_ hr0;have HC0:=q_ hc0;clear hr0 hc0;have H:(some (l0.length:Int))=some r:=h;clear h;obtain rfl:=Option.some.inj H;go_enter Try.func112,Try.ntmps112;go_wp2
 go_ret
 exact⟨by rfl,by repeat(exact Drawn0.refl _)⟩
def impl_stepsIn.f(a0_0:Int)(l0_1:List (S81))(a0_2:Int):Option (Int):=(impl_Arm.f l0_1).bind fun t102=>(if a0_0≥0 then(some (wrap64 ((wrap64 (2+(wrap64 (3*t102))))+1)))else(some (wrap64 (2+(wrap64 (3*t102))))))
theorem impl_stepsIn.calls(a0_0:Int)(A0_1:Option Addr)(c0_1:Nat)(l0_1:List (S81))(a0_2:Int)(r:Int)(w:World)(hr0_1:Kd.C k81 w A0_1 l0_1.length l0_1)(hc0_1:l0_1.length≤c0_1)(h:impl_stepsIn.f a0_0 l0_1 a0_2=some r):
  Calls Try.prog 70 #[.agg #[.int .i64 a0_0, .slice A0_1 l0_1.length c0_1, .int .i64 a0_2]] w fun e w'=>e= .returned (.int .i64 r)∧Below w.heap.size w w':=by
 have hu79:=Try.underlying79;have HR0_1:=q_ hr0_1;have HC0_1:=q_ hc0_1;clear hr0_1 hc0_1;have HB:=q_ (Below.refl w.heap.size w);have H:((impl_Arm.f l0_1).bind fun t102=>(if a0_0≥0 then(some (wrap64 ((wrap64 (2+(wrap64 (3*t102))))+1)))else(some (wrap64 (2+(wrap64 (3*t102)))))))=some r:=h;clear h;obtain⟨t102,A2,H⟩:=ob_ H;by_cases c3:a0_0≥0
 ·rw[iP c3]at H;have c3b0:decide (0≤a0_0)=true:=dt_ c3;clear c3;obtain rfl:=Option.some.inj H;go_enter Try.func70,Try.ntmps70
  go_wp2_with(first| ((with_reducible refine gate_dst (N:=1) rfl ?_);refine bx_ 1 #[.int .i64 a0_0, .slice A0_1 l0_1.length c0_1, .int .i64 a0_2] 79 ?_;intro gb101 hg w4 hbox hb;have Q101:=q_ (hbox);have G101:=ge_ hg HB;replace HB:=sb_ HB hb;clear hb hbox hg;obtain⟨z5_0,z5_1,z5_2,y5_0,y5_1,y5_2⟩:=d3_ Q101)| ((with_reducible refine gate_callee (f:=112) rfl ?_);refine gl_ (some 6) rfl rfl Try.func112 #[.slice A0_1 l0_1.length c0_1] ?_;(with_reducible refine(impl_Arm.calls _ _ l0_1 t102 _ ?side1 ?side2 A2.o).mono ?_);(case side1=>exact Kd.C_below HR0_1.o (be_ HB.o));(case side2=>exact HC0_1.o);rintro e w' ⟨rfl,⟨nd,rfl⟩⟩;refine⟨_,rfl,?_⟩))
  go_ret
  exact⟨rt_,be1_ HB.o G101.o⟩
 rw[iN c3]at H;have c3b0:decide (0≤a0_0)=false:=df_ c3;clear c3;obtain rfl:=Option.some.inj H;go_enter Try.func70,Try.ntmps70
 go_wp2_with(first| ((with_reducible refine gate_dst (N:=1) rfl ?_);refine bx_ 1 #[.int .i64 a0_0, .slice A0_1 l0_1.length c0_1, .int .i64 a0_2] 79 ?_;intro gb101 hg w6 hbox hb;have Q101:=q_ (hbox);have G101:=ge_ hg HB;replace HB:=sb_ HB hb;clear hb hbox hg;obtain⟨z7_0,z7_1,z7_2,y7_0,y7_1,y7_2⟩:=d3_ Q101)| ((with_reducible refine gate_callee (f:=112) rfl ?_);refine gl_ (some 6) rfl rfl Try.func112 #[.slice A0_1 l0_1.length c0_1] ?_;(with_reducible refine(impl_Arm.calls _ _ l0_1 t102 _ ?side1 ?side2 A2.o).mono ?_);(case side1=>exact Kd.C_below HR0_1.o (be_ HB.o));(case side2=>exact HC0_1.o);rintro e w' ⟨rfl,⟨nd,rfl⟩⟩;refine⟨_,rfl,?_⟩))
 go_ret
 exact⟨rt_,be1_ HB.o G101.o⟩
mutual
def impl_Compile.l0:Nat→List Int→Int→List (S79)→Int→Int→List (S79)→Option ((List (S105)) × Bool)
 |0,_,_,_,_,_,_=>none
 |k+1,x4,x5,x19,x20,x21,x102000=>if x21<x20 then(if 0≤x21 then(if x21<(x19.length:Int)then(if x4.length<17592186044416 then((impl_stepsIn.f ((rd_T79 x19 x21).f0) ((rd_T79 x19 x21).f1) ((rd_T79 x19 x21).f2)).bind fun t111=>(impl_Compile.l0 k (x4++ [x5]) (wrap64 (x5+t111)) x19 x20 (wrap64 (x21+1)) x102000))else(none))else(none))else(none))else(if x5>60000 then(some (([]:List (S105)),false))else(impl_Compile.l1 k x4 (([]:List (S105))) x102000 (x102000.length:Int) 0))
def impl_Compile.l1:Nat→List Int→List (S105)→List (S79)→Int→Int→Option ((List (S105)) × Bool)
 |0,_,_,_,_,_=>none
 |k+1,x4,x8,x38,x39,x40=>if x40<x39 then(if 0≤x40 then(if x40<(x38.length:Int)then(if((rd_T79 x38 x40).f0)≥0 then(if x8.length<5864062014805 then(impl_Compile.j2 k x4 (x8++ [(⟨1,(rd_T79 x38 x40).f0,0⟩:S105)]) x40 x38 x39 x40 ((rd_T79 x38 x40).f0) ((rd_T79 x38 x40).f1) ((rd_T79 x38 x40).f2))else(none))else(impl_Compile.j2 k x4 x8 x40 x38 x39 x40 ((rd_T79 x38 x40).f0) ((rd_T79 x38 x40).f1) ((rd_T79 x38 x40).f2)))else(none))else(none))else(some (x8,true))
def impl_Compile.j2:Nat→List Int→List (S105)→Int→List (S79)→Int→Int→Int→List (S81)→Int→Option ((List (S105)) × Bool)
 |0,_,_,_,_,_,_,_,_,_=>none
 |k+1,x4,x8,x9,x38,x39,x40,x117000,x117001,x117002=>if x8.length<5864062014805 then(if 0≤x9 then(if x9<(x4.length:Int)then((impl_stepsIn.f x117000 x117001 x117002).bind fun t124=>(impl_Compile.l2 k x4 (x8++ [(⟨2,0,0⟩:S105)]) (wrap64 ((wrap64 ((rd x4 x9)+t124))-1)) x38 x39 x40 x117001 (x117001.length:Int) 0 x117000 x117001 x117002))else(none))else(none))else(none)
def impl_Compile.l2:Nat→List Int→List (S105)→Int→List (S79)→Int→Int→List (S81)→Int→Int→Int→List (S81)→Int→Option ((List (S105)) × Bool)
 |0,_,_,_,_,_,_,_,_,_,_,_,_=>none
 |k+1,x4,x8,x11,x38,x39,x40,x67,x68,x69,x117000,x117001,x117002=>if x69<x68 then(if 0≤x69 then(if x69<(x67.length:Int)then(if x8.length<5864062014805 then((some (x8++ [(⟨3,(rd_T81 x67 x69).f0,x11⟩:S105)]:List (S105))).bind fun y127=>((impl_MOp.f y127).bind fun t130=>(if y127.length<5864062014805 then((some (y127++ [(⟨4,(rd_T81 x67 x69).f1,wrap64 (t130+2)⟩:S105)]:List (S105))).bind fun y131=>(if 0≤((rd_T81 x67 x69).f2)then(if((rd_T81 x67 x69).f2)<(x4.length:Int)then(if y131.length<5864062014805 then(impl_Compile.l2 k x4 (y131++ [(⟨5,rd x4 ((rd_T81 x67 x69).f2),0⟩:S105)]) x11 x38 x39 x40 x67 x68 (wrap64 (x69+1)) x117000 x117001 x117002)else(none))else(none))else(none)))else(none))))else(none))else(none))else(none))else(if 0≤x117002 then(if x117002<(x4.length:Int)then(if x8.length<5864062014805 then(impl_Compile.l1 k x4 (x8++ [(⟨5,rd x4 x117002,0⟩:S105)]) x38 x39 (wrap64 (x40+1)))else(none))else(none))else(none))
end
def impl_Compile.f(k:Nat)(l0_0:List (S79)):Option ((List (S105)) × Bool):=(impl_CodeOk.f l0_0).bind fun t102=>(if t102=true then(impl_Compile.l0 k (([]:List Int)) 0 l0_0 (l0_0.length:Int) 0 l0_0)else(some (([]:List (S105)),false)))
def impl_Compile.T19:Bool × List (List Nat × List Nat):=(true,[([],[]),([],[]),([0,1],[0,1]),([2],[2]),([],[]),([4],[4]),([3,5],[3,5]),([6],[6]),([7,5,0,1,2,3,4,5,6,7],[7])])
def impl_Compile.B19:List Nat:=[0,0,3,7,0,16,63,127,255]
theorem impl_Compile.tab19:rtab .any (opsOf Try.f27 19)=impl_Compile.T19:=by kernel_rfl
theorem impl_Compile.bits19:waitsOk impl_Compile.T19.2 impl_Compile.B19=true:=by kernel_rfl
def impl_Compile.T24:Bool × List (List Nat × List Nat):=(true,[([],[]),([],[]),([1],[1]),([],[]),([3],[3]),([4],[4]),([2,5],[2,5]),([6],[6]),([0,7,4],[0,7]),([8,8,0,1,2,3,4,5,6,7,8],[0,3,8])])
def impl_Compile.B24:List Nat:=[0,0,2,0,8,24,62,126,255,511]
theorem impl_Compile.tab24:rtab .any (opsOf Try.f27 24)=impl_Compile.T24:=by kernel_rfl
theorem impl_Compile.bits24:waitsOk impl_Compile.T24.2 impl_Compile.B24=true:=by kernel_rfl
theorem impl_Compile.calls(k:Nat)(A0_0:Option Addr)(c0_0:Nat)(l0_0:List (S79))(r1:List (S105))(r2:Bool)(w:World)(hr0_0:Kd.C k79 w A0_0 l0_0.length l0_0)(hc0_0:l0_0.length≤c0_0)(h:impl_Compile.f k l0_0=some (r1,r2)):
  Calls Try.prog 27 #[.agg #[.slice A0_0 l0_0.length c0_0]] w fun e w'=>∃v0_:Value,e= .returned (.tuple #[v0_, .bool r2])∧Kd.R k105 105 w' w.heap.size (fun _=>True) v0_ r1∧Below w.heap.size w w':=by
 have hu29:=Try.underlying29;have hu79:=Try.underlying79;have hu105:=Try.underlying105;have hu81:=Try.underlying81;have HR0_0:=q_ hr0_0;have HC0_0:=q_ hc0_0;clear hr0_0 hc0_0;have HB:=q_ (Below.refl w.heap.size w);have H:((impl_CodeOk.f l0_0).bind fun t102=>(if t102=true then(impl_Compile.l0 k (([]:List Int)) 0 l0_0 (l0_0.length:Int) 0 l0_0)else(some (([]:List (S105)),false))))=some (r1,r2):=h;clear h;obtain⟨t102,A2,H⟩:=ob_ H;by_cases c3:t102=true;rotate_left
 ·replace c3:=Bool.eq_false_iff.mpr c3;subst c3;rw[iN nft_]at H;simp only[Option.some.injEq,Prod.mk.injEq]at H;obtain⟨rfl,rfl⟩:=H;go_enter Try.func27,Try.ntmps27
  go_wp2_with(first| ((with_reducible refine gate_dst (N:=1) rfl ?_);refine bx_ 1 #[.slice A0_0 l0_0.length c0_0] 29 ?_;intro gb101 hg w72 hbox hb;have Q101:=q_ (hbox);have G101:=ge_ hg HB;replace HB:=sb_ HB hb;clear hb hbox hg;obtain⟨z73_0,y73_0⟩:=d1_ Q101)| ((with_reducible refine gate_callee (f:=21) rfl ?_);refine gl_ (some 15) rfl rfl Try.func21 #[.agg #[.slice A0_0 l0_0.length c0_0]] ?_;(with_reducible refine(impl_CodeOk.calls _ _ l0_0 false _ ?side1 ?side2 A2.o).mono ?_);(case side1=>exact Kd.C_below HR0_0.o (be_ HB.o));(case side2=>exact HC0_0.o);rintro e w74 ⟨rfl,hb⟩;refine⟨_,rfl,?_⟩;replace Q101:=lb_ Q101 hb;replace HB:=sb1_ HB G101 hb;clear hb))
  go_ret2
  exact⟨_,rt_,by exact Kd.R_nil _ _ _ _ _,be1_ HB.o G101.o⟩
 subst c3;rw[iP rfl]at H;generalize hy103:([]:List Int)=y103 at H;have Ny103:=q_ hy103.symm;clear hy103;have H':=q_ H;clear H;go_enter Try.func27,Try.ntmps27
 go_wp2_with(first| ((with_reducible refine gate_dst (N:=1) rfl ?_);refine bx_ 1 #[.slice A0_0 l0_0.length c0_0] 29 ?_;intro gb101 hg w4 hbox hb;have Q101:=q_ (hbox);have G101:=ge_ hg HB;replace HB:=sb_ HB hb;clear hb hbox hg;obtain⟨z5_0,y5_0⟩:=d1_ Q101)| ((with_reducible refine gate_callee (f:=21) rfl ?_);refine gl_ (some 15) rfl rfl Try.func21 #[.agg #[.slice A0_0 l0_0.length c0_0]] ?_;(with_reducible refine(impl_CodeOk.calls _ _ l0_0 true _ ?side1 ?side2 A2.o).mono ?_);(case side1=>exact Kd.C_below HR0_0.o (be_ HB.o));(case side2=>exact HC0_0.o);rintro e w6 ⟨rfl,hb⟩;refine⟨_,rfl,?_⟩;replace Q101:=lb_ Q101 hb;replace HB:=sb1_ HB G101 hb;clear hb)| ((with_reducible refine gate_dst (N:=17) rfl ?_);refine Kd.R_lit (Kd.int .i64) _ 2 ?hg (N:=17) ?hd (xs:=([]:List Int)) (inner:=[]) (ok:=fun _=>True) (okp:=fun _=>True) ?hr ?hp (fun _ hk=>hk) trivial (Below.refl _ _) (Nat.le_refl _) (by simp) ?_;(case hd=>rfl);(case hg=>rfl);(case hr=>first| (go_simp;done)| (go_simp;rfl));(case hp=>exact(Reps.none _ _));intro v104 w7 ho8 hb hg_ hnew_;clear hg_ hnew_;(rw[←Ny103.o]at ho8);have O105:=q_ (Kd.R_lower ho8 (below_size (be1_ HB.o G101.o)));replace Q101:=lb_ Q101 hb;replace HB:=sb1_ HB G101 hb;clear hb ho8;obtain⟨z9_0,y9_0⟩:=d1_ Q101))
 go_loopg [4,5,21] k (fun kq v4 v5 v21 w'=>∃(x4_1:List Int) (x5_1:Int) (x21_1:Int),v5= .int .i64 x5_1∧v21= .int .i64 x21_1∧J0 (impl_Compile.l0 kq x4_1 x5_1 l0_0 (l0_0.length:Int) x21_1 l0_0=some (r1,r2))∧J0 (kq≤k)∧J0 (Kd.R (Kd.int .i64) 2 w' w.heap.size (fun _=>True) v4 x4_1)∧J0 (w'.heap[gb101]? =some (.cells #[(.slice A0_0 l0_0.length c0_0)] 29 (0,0)))∧J0 (Below w.heap.size w w'))
 case atStart=>exact⟨(y103),(0),(0),rs_,rs_,H',⟨Nat.le_refl _⟩,⟨ra_ O105.o⟩,⟨bk_ Q101.o⟩,⟨be1_ HB.o G101.o⟩⟩
 case round=>
  clear H';clear z5_0 z9_0 y5_0 y9_0;obtain⟨x4_1,x5_1,x21_1,rfl,rfl,HA,HK1,O_4,Q101,HB⟩:=hrel;cases gk with
  |zero=>exact absurd HA.o (by simp[impl_Compile.l0])
  | succ k1=>
   have H:=HA.o;clear HA;simp only[impl_Compile.l0]at H;by_cases c10:x21_1<(l0_0.length:Int)
   ·rw[iP c10]at H;have d10:=dt_ c10;clear c10;obtain⟨d11,H⟩:=iq_ H;obtain⟨d12,H⟩:=iq_ H;obtain⟨c13,H⟩:=ip_ H;have LMc13:=q_ c13;clear c13;generalize hy108:(x4_1++ [x5_1]:List Int)=y108 at H;have Ny108:=q_ hy108.symm;clear hy108;obtain⟨t111,A14,H⟩:=ob_ H;have H':=q_ H;clear H;obtain⟨p106,q106⟩:=pq_ x21_1 (l0_0.length:Int);obtain⟨ad106,A106_1,c106_1,e106,X106_0,X106_1,X106_2,hl106_1,hi106_1⟩:=at_T79 HR0_0.o x21_1 p106 q106;cases e106;replace X106_0:=mv_ HB.o X106_0;replace X106_1:=mv_ HB.o X106_1;replace X106_2:=mv_ HB.o X106_2;have HR106_1:=q_ hi106_1;have HC106_1:=q_ hl106_1;clear hi106_1 hl106_1;obtain⟨p106,q106⟩:=et_ p106 q106
    go_wp2_with(first| ((with_reducible refine gate_dst (N:=7) rfl ?_);refine bx_ 7 #[.int .i64 0, .slice none 0 0, .int .i64 0] 79 ?_;intro gb107 hg w15 hbox hb;have Q107:=q_ (hbox);have G107:=ge1_ hg HB G101;have N101_107:=nl_ hg Q101;have N107_101:=ng_ hg Q101;replace O_4:=bR_ O_4 hb;replace Q101:=lb_ Q101 hb;replace HB:=sb1_ HB G101 hb;clear hb hbox hg;have hnb16:=N107_101.o;have hnc16:=N101_107.o;obtain⟨z17_0,z17_1,z17_2,y17_0,y17_1,y17_2⟩:=d3_ Q107)| ((with_reducible refine gate_builtin (b:= .append) (xs:=#[.tmp 25, .tmp 27]) rfl ?_);at_builtin;refine Kd.R_append (Kd.int .i64) (w0:=w) w.heap.size rfl (.tmp 25) (.tmp 27) 22 2 (.int .i64 0) 8 rfl Try.underlying22 info2 rfl (by decide) (by omega) u4 x4_1 x5_1 [.int .i64 x5_1] (fun _=>True) (fun _=>False) rfl (by(go_simp;done)) ?aP (fun _ hk=>hk.elim) ?aF ?aO ?aB ?aS ?aL ?_;(case aP=>exact rfl);(case aB=>exact(be2_ HB.o G101.o G107.o));(case aF=>exact(fun _ _=>trivial));(case aO=>exact(Kd.R_mono (rfR_ (Kd.R_types O_4.o Q107.o (by decide))) (fun _ hk=>trivial)));(case aS=>exact(below_size (be2_ HB.o G101.o G107.o)));(case aL=>have:=LMc13.o;omega);intro v109 w18 ho hb hg hat;rw[←Ny108.o]at ho;have O110:=q_ (ho);replace Q101:=q_ (blk_grown (g:=gb101) (o:= .cells #[.slice (some ad106) l0_0.length c0_0] 29 (0,0)) (bw_ Q101 N101_107) hg (Kd.R_ne O_4.o Q101.o (by decide)));replace Q107:=q_ (blk_grown (g:=gb107) (o:= .cells #[.int .i64 ((rd_T79 l0_0 x21_1).f0), .slice A106_1 ((rd_T79 l0_0 x21_1).f1).length c106_1, .int .i64 ((rd_T79 l0_0 x21_1).f2)] 79 (0,0)) (bp_ Q107) hg (Kd.R_ne O_4.o Q107.o (by decide)));replace HB:=q_ (hb);clear O_4 ho hb hg hat;obtain⟨z19_0,z19_1,z19_2,y19_0,y19_1,y19_2⟩:=d3_ Q107)| ((with_reducible refine gate_callee (f:=70) rfl ?_);refine gl_ (some 31) rfl rfl Try.func70 #[.agg #[.int .i64 ((rd_T79 l0_0 x21_1).f0), .slice A106_1 ((rd_T79 l0_0 x21_1).f1).length c106_1, .int .i64 ((rd_T79 l0_0 x21_1).f2)]] ?_;(with_reducible refine(impl_stepsIn.calls ((rd_T79 l0_0 x21_1).f0) _ _ ((rd_T79 l0_0 x21_1).f1) ((rd_T79 l0_0 x21_1).f2) t111 _ ?side1 ?side2 A14.o).mono ?_);(case side1=>exact Kd.C_below HR106_1.o (be_ HB.o));(case side2=>exact HC106_1.o);rintro e w20 ⟨rfl,hb⟩;refine⟨_,rfl,?_⟩;replace O110:=bR_ O110 hb;replace Q101:=lb_ Q101 hb;replace Q107:=lb_ Q107 hb;replace HB:=sb2_ HB G101 G107 hb;clear hb))
    go_roundg k1
    case measure=>have:=HK1.o;omega
    case rel=>exact⟨(y108),(wrap64 (x5_1+t111)),(wrap64 (x21_1+1)),rs_,rs_,H',⟨by have:=HK1.o;omega⟩,⟨ra_ O110.o⟩,⟨bk_ Q101.o⟩,⟨be2_ HB.o G101.o G107.o⟩⟩
   rw[iN c10]at H;have d10:=df_ c10;clear c10;by_cases c21:x5_1>60000
   ·rw[iP c21]at H;have d21:decide (60000<x5_1)=true:=dt_ c21;clear c21;simp only[Option.some.injEq,Prod.mk.injEq]at H;obtain⟨rfl,rfl⟩:=H;go_wp2
    go_ret2
    exact⟨_,rt_,by exact Kd.R_nil _ _ _ _ _,be1_ HB.o G101.o⟩
   rw[iN c21]at H;have d21:decide (60000<x5_1)=false:=df_ c21;clear c21;generalize hy112:([]:List (S105))=y112 at H;have Ny112:=q_ hy112.symm;clear hy112;have H':=q_ H;clear H
   go_wp2_with(((with_reducible refine gate_dst (N:=36) rfl ?_);refine Kd.R_lit k105 _ 105 ?hg (N:=36) ?hd (xs:=([]:List (S105))) (inner:=[]) (ok:=fun _=>True) (okp:=fun _=>True) ?hr ?hp (fun _ hk=>hk) trivial (Below.refl _ _) (Nat.le_refl _) (by simp) ?_;(case hd=>rfl);(case hg=>rfl);(case hr=>first| (go_simp;done)| (go_simp;rfl));(case hp=>exact(Reps.none _ _));intro v113 w22 ho23 hb hg_ hnew_;clear hg_ hnew_;(rw[←Ny112.o]at ho23);have O114:=q_ (Kd.R_lower ho23 (below_size (be1_ HB.o G101.o)));replace O_4:=bR_ O_4 hb;replace Q101:=lb_ Q101 hb;replace HB:=sb1_ HB G101 hb;clear hb ho23;obtain⟨z24_0,y24_0⟩:=d1_ Q101))
   go_loopg [8,40] k1 (fun kq v8 v40 w'=>∃(x8_2:List (S105)) (x40_2:Int),v40= .int .i64 x40_2∧J0 (impl_Compile.l1 kq x4_1 x8_2 l0_0 (l0_0.length:Int) x40_2=some (r1,r2))∧J0 (kq≤k1)∧J0 (Kd.R (Kd.int .i64) 2 w' w.heap.size (fun _=>True) u4 x4_1)∧J0 (Kd.R k105 105 w' w.heap.size (fun _=>True) v8 x8_2)∧J0 (w'.heap[gb101]? =some (.cells #[(.slice A0_0 l0_0.length c0_0)] 29 (0,0)))∧J0 (Below w.heap.size w w'))
   case atStart=>exact⟨(y112),(0),rs_,H',⟨Nat.le_refl _⟩,⟨ra_ O_4.o⟩,⟨ra_ O114.o⟩,⟨bk_ Q101.o⟩,⟨be1_ HB.o G101.o⟩⟩
   case round=>
    clear H';clear d10 d21 z24_0 y24_0;obtain⟨x8_2,x40_2,rfl,HA,HK2,O_4,O_8,Q101,HB⟩:=hrel;cases gk with
    |zero=>exact absurd HA.o (by simp[impl_Compile.l1])
    | succ k2=>
     have H:=HA.o;clear HA;simp only[impl_Compile.l1]at H;by_cases c25:x40_2<(l0_0.length:Int);rotate_left
     ·rw[iN c25]at H;have d25:=df_ c25;clear c25;simp only[Option.some.injEq,Prod.mk.injEq]at H;obtain⟨rfl,rfl⟩:=H;go_wp2
      go_ret2
      exact⟨_,rt_,ra_ O_8.o,be1_ HB.o G101.o⟩
     rw[iP c25]at H;have d25:=dt_ c25;clear c25;obtain⟨d26,H⟩:=iq_ H;obtain⟨d27,H⟩:=iq_ H;have HC28:=q_ H;clear H;obtain⟨p115,q115⟩:=pq_ x40_2 (l0_0.length:Int);obtain⟨ad115,A115_1,c115_1,e115,X115_0,X115_1,X115_2,hl115_1,hi115_1⟩:=at_T79 HR0_0.o x40_2 p115 q115;cases e115;replace X115_0:=mv_ HB.o X115_0;replace X115_1:=mv_ HB.o X115_1;replace X115_2:=mv_ HB.o X115_2;have HR115_1:=q_ hi115_1;have HC115_1:=q_ hl115_1;clear hi115_1 hl115_1;obtain⟨p115,q115⟩:=et_ p115 q115
     go_upto_if 47 with(((with_reducible refine gate_dst (N:=10) rfl ?_);refine bx_ 10 #[.int .i64 0, .slice none 0 0, .int .i64 0] 79 ?_;intro gb116 hg w29 hbox hb;have Q116:=q_ (hbox);have G116:=ge1_ hg HB G101;have N101_116:=nl_ hg Q101;have N116_101:=ng_ hg Q101;replace O_4:=bR_ O_4 hb;replace O_8:=bR_ O_8 hb;replace Q101:=lb_ Q101 hb;replace HB:=sb1_ HB G101 hb;clear hb hbox hg;have hnb30:=N116_101.o;have hnc30:=N101_116.o;obtain⟨z31_0,z31_1,z31_2,y31_0,y31_1,y31_2⟩:=d3_ Q116))
     go_cut [8] (fun v8 wc=>∃(kq:Nat) (x8_27:List (S105)),J0 (impl_Compile.j2 kq x4_1 x8_27 x40_2 l0_0 (l0_0.length:Int) x40_2 ((rd_T79 l0_0 x40_2).f0) ((rd_T79 l0_0 x40_2).f1) ((rd_T79 l0_0 x40_2).f2)=some (r1,r2))∧J0 (kq≤k2)∧J0 (Kd.R (Kd.int .i64) 2 wc w.heap.size (fun _=>True) u4 x4_1)∧J0 (Kd.R k105 105 wc w.heap.size (fun _=>True) v8 x8_27)∧J0 (wc.heap[gb101]? =some (.cells #[(.slice (some ad115) l0_0.length c0_0)] 29 (0,0)))∧J0 (wc.heap[gb116]? =some (.cells #[.int .i64 ((rd_T79 l0_0 x40_2).f0),(.slice A115_1 ((rd_T79 l0_0 x40_2).f1).length c115_1), .int .i64 ((rd_T79 l0_0 x40_2).f2)] 79 (0,0)))∧J0 (Below w.heap.size w wc))
     case first=>
      have H:=HC28.o;clear HC28;by_cases c32:((rd_T79 l0_0 x40_2).f0)≥0;rotate_left
      ·rw[iN c32]at H;have d32:decide (0≤((rd_T79 l0_0 x40_2).f0))=false:=df_ c32;clear c32
       (rw[d32])
       have H':=q_ H;clear H;go_wp2;go_meet
       case rel=>exact⟨_,(x8_2),H',⟨by have:=HK1.o;have:=HK2.o;first|omega|exact Nat.le_refl _⟩,⟨Kd.R_mono (rfR_ (Kd.R_types O_4.o Q116.o (by decide))) (fun _ hk=>trivial)⟩,⟨Kd.R_mono (rfR_ (Kd.R_types O_8.o Q116.o (by decide))) (fun _ hk=>trivial)⟩,⟨by(with_reducible repeat(first|refine blk_drewN ?_ _|refine blk_drew ?_|refine blk_alloc ?_ _));refine blk_far ?_ N101_116.o _;(with_reducible repeat(first|refine blk_drewN ?_ _|refine blk_drew ?_|refine blk_alloc ?_ _));refine blk_far ?_ N101_116.o _;(with_reducible repeat(first|refine blk_drewN ?_ _|refine blk_drew ?_|refine blk_alloc ?_ _));refine blk_far ?_ N101_116.o _;(with_reducible repeat(first|refine blk_drewN ?_ _|refine blk_drew ?_|refine blk_alloc ?_ _));exact Q101.o⟩,⟨by(with_reducible repeat(first|refine blk_drewN ?_ _|refine blk_drew ?_|refine blk_alloc ?_ _));refine blk_put (cs:=#[.int .i64 ((rd_T79 l0_0 x40_2).f0), .slice A115_1 ((rd_T79 l0_0 x40_2).f1).length c115_1, .int .i64 0]) ?_ 2 _ rfl;(with_reducible repeat(first|refine blk_drewN ?_ _|refine blk_drew ?_|refine blk_alloc ?_ _));refine blk_put (cs:=#[.int .i64 ((rd_T79 l0_0 x40_2).f0), .slice none 0 0, .int .i64 0]) ?_ 1 _ rfl;(with_reducible repeat(first|refine blk_drewN ?_ _|refine blk_drew ?_|refine blk_alloc ?_ _));refine blk_put (cs:=#[.int .i64 0, .slice none 0 0, .int .i64 0]) ?_ 0 _ rfl;(with_reducible repeat(first|refine blk_drewN ?_ _|refine blk_drew ?_|refine blk_alloc ?_ _));exact Q116.o⟩,⟨be2_ HB.o G101.o G116.o⟩⟩
      rw[iP c32]at H;have d32:decide (0≤((rd_T79 l0_0 x40_2).f0))=true:=dt_ c32;clear c32
      (rw[d32])
      obtain⟨c33,H⟩:=ip_ H;have LMc33:=q_ c33;clear c33;generalize hy117:(x8_2++ [(⟨1,(rd_T79 l0_0 x40_2).f0,0⟩:S105)]:List (S105))=y117 at H;have Ny117:=q_ hy117.symm;clear hy117;have H':=q_ H;clear H;have hnb34:=N116_101.o;have hnc34:=N101_116.o;obtain⟨z35_0,z35_1,z35_2,y35_0,y35_1,y35_2⟩:=d3_ Q116
      go_wp2_with(((with_reducible refine gate_builtin (b:= .append) (xs:=#[.tmp 48, .tmp 52]) rfl ?_);at_builtin;refine Kd.R_append k105 (w0:=w) w.heap.size rfl (.tmp 48) (.tmp 52) 47 105 (.agg #[(.int .i64 0),(.int .i64 0),(.int .i64 0)]) 24 rfl Try.underlying47 info105 rfl (by decide) (by omega) u8 x8_2 (⟨1,(rd_T79 l0_0 x40_2).f0,0⟩:S105) [.int .i64 1, .int .i64 ((rd_T79 l0_0 x40_2).f0), .int .i64 0] (fun _=>True) (fun _=>False) rfl (by(go_simp;done)) ?aP (fun _ hk=>hk.elim) ?aF ?aO ?aB ?aS ?aL ?_;(case aP=>exact k105_mkM _ _ _ (⟨1,(rd_T79 l0_0 x40_2).f0,0⟩:S105));(case aB=>exact(be2_ HB.o G101.o G116.o));(case aF=>exact(fun _ _=>trivial));(case aO=>exact(Kd.R_mono (rfR_ (Kd.R_types O_8.o Q116.o (by decide))) (fun _ hk=>trivial)));(case aS=>exact(below_size (be2_ HB.o G101.o G116.o)));(case aL=>have:=LMc33.o;omega);intro v118 w36 ho hb hg hat;rw[←Ny117.o]at ho;have O119:=q_ (ho);replace O_4:=q_ (Kd.R_over' (Kd.R_mono (rfR_ (Kd.R_types O_4.o Q116.o (by decide))) (fun _ h_=>h_.1)) (Kd.R_typed (Kd.R_mono (rfR_ (Kd.R_types O_8.o Q116.o (by decide))) (fun _ h_=>h_.1))) (by decide) hg);replace Q101:=q_ (blk_grown (g:=gb101) (o:= .cells #[.slice (some ad115) l0_0.length c0_0] 29 (0,0)) (bw_ Q101 N101_116) hg (Kd.R_ne O_8.o Q101.o (by decide)));replace Q116:=q_ (blk_grown (g:=gb116) (o:= .cells #[.int .i64 ((rd_T79 l0_0 x40_2).f0), .slice A115_1 ((rd_T79 l0_0 x40_2).f1).length c115_1, .int .i64 ((rd_T79 l0_0 x40_2).f2)] 79 (0,0)) (bp_ Q116) hg (Kd.R_ne O_8.o Q116.o (by decide)));replace HB:=q_ (hb);clear O_8 ho hb hg hat))
      go_meet
      case rel=>exact⟨_,(y117),H',⟨by have:=HK1.o;have:=HK2.o;first|omega|exact Nat.le_refl _⟩,⟨ra_ O_4.o⟩,⟨ra_ O119.o⟩,⟨bk_ Q101.o⟩,⟨bk_ Q116.o⟩,⟨be2_ HB.o G101.o G116.o⟩⟩
     case rest=>
      clear HC28 d25 d26 d27 z31_0 z31_1 z31_2 y31_0 y31_1 y31_2 X115_0 X115_1 X115_2 p115 q115;obtain⟨kq,x8_27,HA,HJ27,O_4,O_8,Q101,Q116,HB⟩:=hcut;cases kq with
      |zero=>exact absurd HA.o (by simp[impl_Compile.j2])
      | succ kj27=>
       have H:=HA.o;clear HA;simp only[impl_Compile.j2]at H;obtain⟨c37,H⟩:=ip_ H;have LMc37:=q_ c37;clear c37;generalize hy120:(x8_27++ [(⟨2,0,0⟩:S105)]:List (S105))=y120 at H;have Ny120:=q_ hy120.symm;clear hy120;obtain⟨d38,H⟩:=iq_ H;obtain⟨d39,H⟩:=iq_ H;obtain⟨t124,A40,H⟩:=ob_ H;have H':=q_ H;clear H
       try go_wp2_with(((with_reducible refine gate_builtin (b:= .append) (xs:=#[.tmp 54, .tmp 56]) rfl ?_);at_builtin;refine Kd.R_append k105 (w0:=w) w.heap.size rfl (.tmp 54) (.tmp 56) 47 105 (.agg #[(.int .i64 0),(.int .i64 0),(.int .i64 0)]) 24 rfl Try.underlying47 info105 rfl (by decide) (by omega) u8 x8_27 (⟨2,0,0⟩:S105) [.int .i64 2, .int .i64 0, .int .i64 0] (fun _=>True) (fun _=>False) rfl rfl ?aP (fun _ hk=>hk.elim) ?aF ?aO ?aB ?aS ?aL ?_;(case aP=>exact k105_mkM _ _ _ (⟨2,0,0⟩:S105));(case aB=>exact(be2_ HB.o G101.o G116.o));(case aF=>exact(fun _ _=>trivial));(case aO=>exact(ra_ O_8.o));(case aS=>exact(below_size (be2_ HB.o G101.o G116.o)));(case aL=>have:=LMc37.o;omega);intro v121 w41 ho hb hg hat;rw[←Ny120.o]at ho;have O122:=q_ (ho);replace O_4:=q_ (Kd.R_over' (ra_ O_4.o) (Kd.R_typed (ra_ O_8.o)) (by decide) hg);replace Q101:=bg_ Q101 hg (Kd.R_ne O_8.o Q101.o (by decide));replace Q116:=bg_ Q116 hg (Kd.R_ne O_8.o Q116.o (by decide));replace HB:=q_ (hb);clear O_8 ho hb hg hat))
       replace O_4:=q_ (Kd.R_drew O_4.o);replace O122:=q_ (Kd.R_drew O122.o);replace Q101:=q_ (blk_drew Q101.o);replace Q116:=q_ (blk_drew Q116.o);replace HB:=q_ (below_drew1 HB.o);obtain⟨Ao43,co43,eo43⟩:=Kd.R_slice O_4.o
       (subst eo43)
       obtain⟨p123,q123⟩:=pq_ x40_2 (x4_1.length:Int);obtain⟨ad123,e123,X123_0⟩:=Kd.at_int (Kd.R_reads' O_4.o).2.2 x40_2 p123 q123;cases e123;obtain⟨p123,q123⟩:=et_ p123 q123;refine start_ (n:=9) (S:=fun w'=>w'.cell? ⟨gb116,0,none⟩=some (.int .i64 ((rd_T79 l0_0 x40_2).f0))∧w'.cell? ⟨gb116,1,none⟩=some (.slice A115_1 ((rd_T79 l0_0 x40_2).f1).length c115_1)∧w'.cell? ⟨gb116,2,none⟩=some (.int .i64 ((rd_T79 l0_0 x40_2).f2))∧w'.cell? (ad123.add (x40_2).toNat)=some (.int .i64 (rd x4_1 x40_2))) (ds:=[]) (bb 9 0) (by kernel_rfl) rfl rfl ⟨(blk_cell Q116.o 0).trans rfl,(blk_cell Q116.o 1).trans rfl,(blk_cell Q116.o 2).trans rfl,X123_0⟩ (fun hHeld=>?_);refine with_tabW impl_Compile.tab19 impl_Compile.bits19 (fun HT_ HW_=>?_);generalize w41.drew=w42 at O_4 O122 Q101 Q116 HB X123_0 hHeld ⊢;refine pv_ 0 58 1 HT_.o ?_;refine pv_ 1 59 3 HT_.o ?_;refine pv_ 2 60 7 HT_.o ?_;refine tv_ 3 61 15 HT_.o HW_.o hHeld ?_;refine tv_ 4 62 31 HT_.o HW_.o hHeld ?_;refine one_ (i:=5) (N:=some 63) (bb 9 63) rfl rfl (one_of HT_.o (by kernel_rfl)) (by decide) (fun K hK=>?_);refine gs_ Try.func70 #[.agg #[.int .i64 ((rd_T79 l0_0 x40_2).f0), .slice A115_1 ((rd_T79 l0_0 x40_2).f1).length c115_1, .int .i64 ((rd_T79 l0_0 x40_2).f2)]] ?_
       with_reducible refine(impl_stepsIn.calls ((rd_T79 l0_0 x40_2).f0) _ _ ((rd_T79 l0_0 x40_2).f1) ((rd_T79 l0_0 x40_2).f2) t124 _ ?side1 ?side2 A40.o).mono ?_
       (case side1=>exact Kd.C_below HR115_1.o (be_ HB.o));(case side2=>exact HC115_1.o);rintro e w44 ⟨rfl,hb⟩;have HS3_:=(hb.cell (World.block_lt_of_cell? _ _ (hHeld.2.2.2))).trans (hHeld.2.2.2);refine⟨_,rfl,?_⟩;replace O_4:=bR_ O_4 hb;replace O122:=bR_ O122 hb;replace Q101:=lb_ Q101 hb;replace Q116:=lb_ Q116 hb;replace HB:=sb2_ HB G101 G116 hb;clear hb;refine hK.out _ _ ⟨(blk_cell Q116.o 0).trans rfl,(blk_cell Q116.o 1).trans rfl,(blk_cell Q116.o 2).trans rfl,HS3_⟩ (fun hHeld=>?_);clear hK K;refine no_ (some 63) ?_;refine pv_ 6 64 127 HT_.o ?_;refine pv_ 7 65 255 HT_.o ?_;refine pv_ 8 11 511 HT_.o ?_;refine done_ (done_of HT_.o (by kernel_rfl)) ?_;have hnb45:=N116_101.o;have hnc45:=N101_116.o;obtain⟨z46_0,z46_1,z46_2,y46_0,y46_1,y46_2⟩:=d3_ Q116
       try go_wp2
       go_loopg [8,69] kj27 (fun kq v8 v69 w'=>∃(x8_4:List (S105)) (x69_4:Int),v69= .int .i64 x69_4∧J0 (impl_Compile.l2 kq x4_1 x8_4 (wrap64 ((wrap64 ((rd x4_1 x40_2)+t124))-1)) l0_0 (l0_0.length:Int) x40_2 ((rd_T79 l0_0 x40_2).f1) (((rd_T79 l0_0 x40_2).f1).length:Int) x69_4 ((rd_T79 l0_0 x40_2).f0) ((rd_T79 l0_0 x40_2).f1) ((rd_T79 l0_0 x40_2).f2)=some (r1,r2))∧J0 (kq≤kj27)∧J0 (Kd.R (Kd.int .i64) 2 w' w.heap.size (fun _=>True) (.slice (some ad123) x4_1.length co43) x4_1)∧J0 (Kd.R k105 105 w' w.heap.size (fun _=>True) v8 x8_4)∧J0 (w'.heap[gb101]? =some (.cells #[(.slice (some ad115) l0_0.length c0_0)] 29 (0,0)))∧J0 (w'.heap[gb116]? =some (.cells #[.int .i64 ((rd_T79 l0_0 x40_2).f0),(.slice A115_1 ((rd_T79 l0_0 x40_2).f1).length c115_1), .int .i64 ((rd_T79 l0_0 x40_2).f2)] 79 (0,0)))∧J0 (Below w.heap.size w w'))
       case atStart=>exact⟨(y120),(0),rs_,H',⟨Nat.le_refl _⟩,⟨ra_ O_4.o⟩,⟨ra_ O122.o⟩,⟨bk_ Q101.o⟩,⟨bk_ Q116.o⟩,⟨be2_ HB.o G101.o G116.o⟩⟩
       case round=>
        clear H';clear d38 d39 z46_0 z46_1 z46_2 y46_0 y46_1 y46_2 X123_0 p123 q123;obtain⟨x8_4,x69_4,rfl,HA,HK4,O_4,O_8,Q101,Q116,HB⟩:=hrel;cases gk with
        |zero=>exact absurd HA.o (by simp[impl_Compile.l2])
        | succ k4=>
         have H:=HA.o;clear HA;simp only[impl_Compile.l2]at H;by_cases c47:x69_4<(((rd_T79 l0_0 x40_2).f1).length:Int);rotate_left
         ·rw[iN c47]at H;have d47:=df_ c47;clear c47;obtain⟨d66,H⟩:=iq_ H;obtain⟨d67,H⟩:=iq_ H;obtain⟨c68,H⟩:=ip_ H;have LMc68:=q_ c68;clear c68;generalize hy139:(x8_4++ [(⟨5,rd x4_1 ((rd_T79 l0_0 x40_2).f2),0⟩:S105)]:List (S105))=y139 at H;have Ny139:=q_ hy139.symm;clear hy139;have H':=q_ H;clear H;have hnb69:=N116_101.o;have hnc69:=N101_116.o;obtain⟨z70_0,z70_1,z70_2,y70_0,y70_1,y70_2⟩:=d3_ Q116;obtain⟨p138,q138⟩:=pq_ ((rd_T79 l0_0 x40_2).f2) (x4_1.length:Int);obtain⟨ad138,e138,X138_0⟩:=Kd.at_int (Kd.R_reads' O_4.o).2.2 ((rd_T79 l0_0 x40_2).f2) p138 q138;obtain rfl:ad123=ad138:=(by injection e138);obtain⟨p138,q138⟩:=et_ p138 q138
          go_wp2_with(((with_reducible refine gate_builtin (b:= .append) (xs:=#[.tmp 99, .tmp 106]) rfl ?_);at_builtin;refine Kd.R_append k105 (w0:=w) w.heap.size rfl (.tmp 99) (.tmp 106) 47 105 (.agg #[(.int .i64 0),(.int .i64 0),(.int .i64 0)]) 24 rfl Try.underlying47 info105 rfl (by decide) (by omega) u8 x8_4 (⟨5,rd x4_1 ((rd_T79 l0_0 x40_2).f2),0⟩:S105) [.int .i64 5, .int .i64 (rd x4_1 ((rd_T79 l0_0 x40_2).f2)), .int .i64 0] (fun _=>True) (fun _=>False) rfl rfl ?aP (fun _ hk=>hk.elim) ?aF ?aO ?aB ?aS ?aL ?_;(case aP=>exact k105_mkM _ _ _ (⟨5,rd x4_1 ((rd_T79 l0_0 x40_2).f2),0⟩:S105));(case aB=>exact(be2_ HB.o G101.o G116.o));(case aF=>exact(fun _ _=>trivial));(case aO=>exact(ra_ O_8.o));(case aS=>exact(below_size (be2_ HB.o G101.o G116.o)));(case aL=>have:=LMc68.o;omega);intro v140 w71 ho hb hg hat;rw[←Ny139.o]at ho;have O141:=q_ (ho);replace O_4:=q_ (Kd.R_over' (ra_ O_4.o) (Kd.R_typed (ra_ O_8.o)) (by decide) hg);replace Q101:=bg_ Q101 hg (Kd.R_ne O_8.o Q101.o (by decide));replace Q116:=bg_ Q116 hg (Kd.R_ne O_8.o Q116.o (by decide));replace HB:=q_ (hb);clear O_8 ho hb hg hat))
          go_roundg k4
          case measure=>have:=HK1.o;have:=HK2.o;have:=HJ27.o;have:=HK4.o;omega
          case rel=>exact⟨(y139),(wrap64 (x40_2+1)),rs_,H',⟨by have:=HK1.o;have:=HK2.o;have:=HJ27.o;have:=HK4.o;omega⟩,⟨ra_ O_4.o⟩,⟨ra_ O141.o⟩,⟨bk_ Q101.o⟩,⟨be2_ HB.o G101.o G116.o⟩⟩
         rw[iP c47]at H;have d47:=dt_ c47;clear c47;obtain⟨d48,H⟩:=iq_ H;obtain⟨d49,H⟩:=iq_ H;obtain⟨c50,H⟩:=ip_ H;have LMc50:=q_ c50;clear c50;obtain⟨y127,Ny127,H⟩:=bs_ H;obtain⟨t130,A51,H⟩:=ob_ H;obtain⟨c52,H⟩:=ip_ H;have LMc52:=q_ c52;clear c52;obtain⟨y131,Ny131,H⟩:=bs_ H;obtain⟨d53,H⟩:=iq_ H;obtain⟨d54,H⟩:=iq_ H;obtain⟨c55,H⟩:=ip_ H;have LMc55:=q_ c55;clear c55;generalize hy135:(y131++ [(⟨5,rd x4_1 ((rd_T81 ((rd_T79 l0_0 x40_2).f1) x69_4).f2),0⟩:S105)]:List (S105))=y135 at H;have Ny135:=q_ hy135.symm;clear hy135;have H':=q_ H;clear H;obtain⟨p125,q125⟩:=pq_ x69_4 (((rd_T79 l0_0 x40_2).f1).length:Int);obtain⟨ad125,e125,X125_0,X125_1,X125_2⟩:=at_T81 HR115_1.o x69_4 p125 q125;cases e125;replace X125_0:=mv_ HB.o X125_0;replace X125_1:=mv_ HB.o X125_1;replace X125_2:=mv_ HB.o X125_2;obtain⟨p125,q125⟩:=et_ p125 q125
         try go_wp2_with(first| ((with_reducible refine gate_dst (N:=13) rfl ?_);refine bx_ 13 #[.int .i64 0, .int .i64 0, .int .i64 0] 81 ?_;intro gb126 hg w56 hbox hb;have Q126:=q_ (hbox);have G126:=ge2_ hg HB G101 G116;have N101_126:=nl_ hg Q101;have N126_101:=ng_ hg Q101;have N116_126:=nl_ hg Q116;have N126_116:=ng_ hg Q116;replace O_4:=bR_ O_4 hb;replace O_8:=bR_ O_8 hb;replace Q101:=lb_ Q101 hb;replace Q116:=lb_ Q116 hb;replace HB:=sb2_ HB G101 G116 hb;clear hb hbox hg;have hnb57:=N126_101.o;have hnc57:=N101_126.o;have hnb58:=N126_116.o;have hnc58:=N116_126.o;obtain⟨z59_0,z59_1,z59_2,y59_0,y59_1,y59_2⟩:=d3_ Q126)| ((with_reducible refine gate_builtin (b:= .append) (xs:=#[.tmp 73, .tmp 78]) rfl ?_);at_builtin;refine Kd.R_append k105 (w0:=w) w.heap.size rfl (.tmp 73) (.tmp 78) 47 105 (.agg #[(.int .i64 0),(.int .i64 0),(.int .i64 0)]) 24 rfl Try.underlying47 info105 rfl (by decide) (by omega) u8 x8_4 (⟨3,(rd_T81 ((rd_T79 l0_0 x40_2).f1) x69_4).f0,(wrap64 ((wrap64 ((rd x4_1 x40_2)+t124))-1))⟩:S105) [.int .i64 3, .int .i64 ((rd_T81 ((rd_T79 l0_0 x40_2).f1) x69_4).f0), .int .i64 (wrap64 ((wrap64 ((rd x4_1 x40_2)+t124))-1))] (fun _=>True) (fun _=>False) rfl (by(go_simp;done)) ?aP (fun _ hk=>hk.elim) ?aF ?aO ?aB ?aS ?aL ?_;(case aP=>exact k105_mkM _ _ _ (⟨3,(rd_T81 ((rd_T79 l0_0 x40_2).f1) x69_4).f0,(wrap64 ((wrap64 ((rd x4_1 x40_2)+t124))-1))⟩:S105));(case aB=>exact(be3_ HB.o G101.o G116.o G126.o));(case aF=>exact(fun _ _=>trivial));(case aO=>exact(Kd.R_mono (rfR_ (Kd.R_types O_8.o Q126.o (by decide))) (fun _ hk=>trivial)));(case aS=>exact(below_size (be3_ HB.o G101.o G116.o G126.o)));(case aL=>have:=LMc50.o;omega);intro v128 w60 ho hb hg hat;rw[←Ny127.o]at ho;have O129:=q_ (ho);replace O_4:=q_ (Kd.R_over' (Kd.R_mono (rfR_ (Kd.R_types O_4.o Q126.o (by decide))) (fun _ h_=>h_.1)) (Kd.R_typed (Kd.R_mono (rfR_ (Kd.R_types O_8.o Q126.o (by decide))) (fun _ h_=>h_.1))) (by decide) hg);replace Q101:=q_ (blk_grown (g:=gb101) (o:= .cells #[.slice (some ad115) l0_0.length c0_0] 29 (0,0)) (bw_ Q101 N101_126) hg (Kd.R_ne O_8.o Q101.o (by decide)));replace Q116:=q_ (blk_grown (g:=gb116) (o:= .cells #[.int .i64 ((rd_T79 l0_0 x40_2).f0), .slice (some ad125) ((rd_T79 l0_0 x40_2).f1).length c115_1, .int .i64 ((rd_T79 l0_0 x40_2).f2)] 79 (0,0)) (bw_ Q116 N116_126) hg (Kd.R_ne O_8.o Q116.o (by decide)));replace Q126:=q_ (blk_grown (g:=gb126) (o:= .cells #[.int .i64 ((rd_T81 ((rd_T79 l0_0 x40_2).f1) x69_4).f0), .int .i64 ((rd_T81 ((rd_T79 l0_0 x40_2).f1) x69_4).f1), .int .i64 ((rd_T81 ((rd_T79 l0_0 x40_2).f1) x69_4).f2)] 81 (0,0)) (bp_ Q126) hg (Kd.R_ne O_8.o Q126.o (by decide)));replace HB:=q_ (hb);clear O_8 ho hb hg hat))
         replace O_4:=q_ (Kd.R_drew O_4.o);replace O129:=q_ (Kd.R_drew O129.o);replace Q101:=q_ (blk_drew Q101.o);replace Q116:=q_ (blk_drew Q116.o);replace Q126:=q_ (blk_drew Q126.o);replace HB:=q_ (below_drew1 HB.o);obtain⟨Ao62,co62,eo62⟩:=Kd.R_slice O129.o
         (subst eo62)
         refine start_ (n:=10) (S:=fun w'=>w'.cell? ⟨gb126,0,none⟩=some (.int .i64 ((rd_T81 ((rd_T79 l0_0 x40_2).f1) x69_4).f0))∧w'.cell? ⟨gb126,1,none⟩=some (.int .i64 ((rd_T81 ((rd_T79 l0_0 x40_2).f1) x69_4).f1))∧w'.cell? ⟨gb126,2,none⟩=some (.int .i64 ((rd_T81 ((rd_T79 l0_0 x40_2).f1) x69_4).f2))) (ds:=[]) (bb 10 0) (by kernel_rfl) rfl rfl ⟨(blk_cell Q126.o 0).trans rfl,(blk_cell Q126.o 1).trans rfl,(blk_cell Q126.o 2).trans rfl⟩ (fun hHeld=>?_);refine with_tabW impl_Compile.tab24 impl_Compile.bits24 (fun HT_ HW_=>?_);generalize w60.drew=w61 at O_4 O129 Q101 Q116 Q126 HB hHeld ⊢;refine pv_ 0 80 1 HT_.o ?_;refine pv_ 1 81 3 HT_.o ?_;refine pv_ 3 83 11 HT_.o ?_;refine tv_ 2 82 15 HT_.o HW_.o hHeld ?_;refine one_ (i:=4) (N:=some 84) (bb 10 31) rfl rfl (one_of HT_.o (by kernel_rfl)) (by decide) (fun K hK=>?_);refine gs_ Try.func71 #[.slice Ao62 y127.length co62] ?_
         with_reducible refine(impl_MOp.calls _ _ y127 t130 _ ?side1 ?side2 A51.o).mono ?_
         (case side1=>exact ca_ (Kd.R_reads' O129.o).2.2);(case side2=>exact(Kd.R_reads' O129.o).2.1);rintro e w' ⟨rfl,⟨nd,rfl⟩⟩;refine⟨_,rfl,?_⟩;refine hK.out _ _ ⟨(blk_cell Q126.o 0).trans rfl,(blk_cell Q126.o 1).trans rfl,(blk_cell Q126.o 2).trans rfl⟩ (fun hHeld=>?_);clear hK K;refine no_ (some 84) ?_;refine pv_ 5 85 63 HT_.o ?_;refine pv_ 6 86 127 HT_.o ?_;refine one_ (i:=7) (N:=some 87) (bb 10 255) rfl rfl (one_of HT_.o (by kernel_rfl)) (by decide) (fun K hK=>?_);refine value_ (w1:=?_) (v:=?_) (by rfl) rfl ?_ ?_;rotate_left 2
         ·go_simp
          constructor
          ·rfl
          ·rfl
         refine hK.out _ _ ⟨(blk_cell (blk_alloc Q126.o _) 0).trans rfl,(blk_cell (blk_alloc Q126.o _) 1).trans rfl,(blk_cell (blk_alloc Q126.o _) 2).trans rfl⟩ (fun hHeld=>?_);clear hK K;refine no_ (some 87) ?_;refine one_ (i:=8) (N:=some 88) (bb 10 511) rfl rfl (one_of HT_.o (by kernel_rfl)) (by decide) (fun K hK=>?_);refine Kd.R_append_step k105 (w0:=w) w.heap.size (by rfl) (.tmp 80) (.tmp 87) 47 105 (.agg #[(.int .i64 0),(.int .i64 0),(.int .i64 0)]) 24 rfl Try.underlying47 info105 rfl (by decide) (by omega) (.slice Ao62 y127.length co62) y127 (⟨4,(rd_T81 ((rd_T79 l0_0 x40_2).f1) x69_4).f1,wrap64 (t130+2)⟩:S105) [.int .i64 4, .int .i64 ((rd_T81 ((rd_T79 l0_0 x40_2).f1) x69_4).f1), .int .i64 (wrap64 (t130+2))] (fun _=>True) (fun _=>False) rfl rfl ?aP (fun _ hk=>hk.elim) ?aF ?aO ?aB ?aS ?aL ?_;(case aP=>exact k105_mkM _ _ _ (⟨4,(rd_T81 ((rd_T79 l0_0 x40_2).f1) x69_4).f1,wrap64 (t130+2)⟩:S105));(case aB=>exact(be3_ HB.o G101.o G116.o G126.o));(case aF=>exact(fun _ _=>trivial));(case aO=>exact(ra_ O129.o));(case aS=>exact(below_size (be3_ HB.o G101.o G116.o G126.o)));(case aL=>have:=LMc52.o;omega);intro v132 w63 ho hb hg hat;rw[←Ny131.o]at ho;have O133:=q_ (ho);replace O_4:=q_ (Kd.R_over' (ra_ O_4.o) (Kd.R_typed (ra_ O129.o)) (by decide) hg);replace Q101:=bg_ Q101 hg (Kd.R_ne O129.o Q101.o (by decide));replace Q116:=bg_ Q116 hg (Kd.R_ne O129.o Q116.o (by decide));replace Q126:=bg_ Q126 hg (Kd.R_ne O129.o Q126.o (by decide));replace HB:=q_ (hb);clear O129 ho hb hg hat;refine hK.out _ _ ⟨(blk_cell Q126.o 0).trans rfl,(blk_cell Q126.o 1).trans rfl,(blk_cell Q126.o 2).trans rfl⟩ (fun hHeld=>?_);clear hK K;refine no_ (some 88) ?_;refine pv_ 9 8 1023 HT_.o ?_;refine done_ (done_of HT_.o (by kernel_rfl)) ?_;obtain⟨z64_0,z64_1,z64_2,y64_0,y64_1,y64_2⟩:=d3_ Q126;obtain⟨p134,q134⟩:=pq_ ((rd_T81 ((rd_T79 l0_0 x40_2).f1) x69_4).f2) (x4_1.length:Int);obtain⟨ad134,e134,X134_0⟩:=Kd.at_int (Kd.R_reads' O_4.o).2.2 ((rd_T81 ((rd_T79 l0_0 x40_2).f1) x69_4).f2) p134 q134;obtain rfl:ad123=ad134:=(by injection e134);obtain⟨p134,q134⟩:=et_ p134 q134
         try go_wp2_with(((with_reducible refine gate_builtin (b:= .append) (xs:=#[.tmp 89, .tmp 96]) rfl ?_);at_builtin;refine Kd.R_append k105 (w0:=w) w.heap.size rfl (.tmp 89) (.tmp 96) 47 105 (.agg #[(.int .i64 0),(.int .i64 0),(.int .i64 0)]) 24 rfl Try.underlying47 info105 rfl (by decide) (by omega) v132 y131 (⟨5,rd x4_1 ((rd_T81 ((rd_T79 l0_0 x40_2).f1) x69_4).f2),0⟩:S105) [.int .i64 5, .int .i64 (rd x4_1 ((rd_T81 ((rd_T79 l0_0 x40_2).f1) x69_4).f2)), .int .i64 0] (fun _=>True) (fun _=>False) rfl rfl ?aP (fun _ hk=>hk.elim) ?aF ?aO ?aB ?aS ?aL ?_;(case aP=>exact k105_mkM _ _ _ (⟨5,rd x4_1 ((rd_T81 ((rd_T79 l0_0 x40_2).f1) x69_4).f2),0⟩:S105));(case aB=>exact(be3_ HB.o G101.o G116.o G126.o));(case aF=>exact(fun _ _=>trivial));(case aO=>exact(ra_ O133.o));(case aS=>exact(below_size (be3_ HB.o G101.o G116.o G126.o)));(case aL=>have:=LMc55.o;omega);intro v136 w65 ho hb hg hat;rw[←Ny135.o]at ho;have O137:=q_ (ho);replace O_4:=q_ (Kd.R_over' (ra_ O_4.o) (Kd.R_typed (ra_ O133.o)) (by decide) hg);replace Q101:=bg_ Q101 hg (Kd.R_ne O133.o Q101.o (by decide));replace Q116:=bg_ Q116 hg (Kd.R_ne O133.o Q116.o (by decide));replace Q126:=bg_ Q126 hg (Kd.R_ne O133.o Q126.o (by decide));replace HB:=q_ (hb);clear O133 ho hb hg hat))
         go_roundg k4
         case measure=>have:=HK1.o;have:=HK2.o;have:=HJ27.o;have:=HK4.o;omega
         case rel=>exact⟨(y135),(wrap64 (x69_4+1)),rs_,H',⟨by have:=HK1.o;have:=HK2.o;have:=HJ27.o;have:=HK4.o;omega⟩,⟨ra_ O_4.o⟩,⟨ra_ O137.o⟩,⟨bk_ Q101.o⟩,⟨bk_ Q116.o⟩,⟨be3_ HB.o G101.o G116.o G126.o⟩⟩
def spec_l18Next.l0:Nat→Int→Int→Int→List (S81)→Int→Option (Int)
 |0,_,_,_,_,_=>none
 |k+1,x1,x5,x102000,x102001,x102002=>if x5<(x102001.length:Int)then(if 0≤x5 then((spec_l1In.f x1 ((rd_T81 x102001 x5).f0) ((rd_T81 x102001 x5).f1)).bind fun t104=>(if t104=true then(some ((rd_T81 x102001 x5).f2))else(spec_l18Next.l0 k x1 (wrap64 (x5+1)) x102000 x102001 x102002)))else(none))else(some x102002)
def spec_l18Next.f(k:Nat)(a0_0:Int)(l0_1:List (S81))(a0_2:Int)(a1:Int):Option (Int):=spec_l18Next.l0 k a1 0 a0_0 l0_1 a0_2
theorem spec_l18Next.calls(k:Nat)(a0_0:Int)(A0_1:Option Addr)(c0_1:Nat)(l0_1:List (S81))(a0_2:Int)(a1:Int)(r:Int)(w:World)(hr0_1:Kd.C k81 w A0_1 l0_1.length l0_1)(hc0_1:l0_1.length≤c0_1)(h:spec_l18Next.f k a0_0 l0_1 a0_2 a1=some r):
  Calls Try.prog 72 #[.agg #[.int .i64 a0_0, .slice A0_1 l0_1.length c0_1, .int .i64 a0_2], .int .i64 a1] w fun e w'=>e= .returned (.int .i64 r)∧Below w.heap.size w w':=by
 have hu79:=Try.underlying79;have HR0_1:=q_ hr0_1;have HC0_1:=q_ hc0_1;clear hr0_1 hc0_1;have HB:=q_ (Below.refl w.heap.size w);have H:(spec_l18Next.l0 k a1 0 a0_0 l0_1 a0_2)=some r:=h;clear h;have H':=q_ H;clear H;go_enter Try.func72,Try.ntmps72
 go_wp2_with(((with_reducible refine gate_dst (N:=2) rfl ?_);refine bx_ 2 #[.int .i64 a0_0, .slice A0_1 l0_1.length c0_1, .int .i64 a0_2] 79 ?_;intro gb101 hg w3 hbox hb;have Q101:=q_ (hbox);have G101:=ge_ hg HB;replace HB:=sb_ HB hb;clear hb hbox hg))
 go_loopg [5] k (fun kq v5 w'=>∃(x5_1:Int),v5= .int .i64 x5_1∧J0 (spec_l18Next.l0 kq a1 x5_1 a0_0 l0_1 a0_2=some r)∧J0 (kq≤k)∧J0 (w'.heap[gb101]? =some (.cells #[.int .i64 a0_0,(.slice A0_1 l0_1.length c0_1), .int .i64 a0_2] 79 (0,0)))∧J0 (Below w.heap.size w w'))
 case atStart=>exact⟨(0),rs_,H',⟨Nat.le_refl _⟩,⟨bk_ Q101.o⟩,⟨be1_ HB.o G101.o⟩⟩
 case round=>
  clear H';obtain⟨x5_1,rfl,HA,HK1,Q101,HB⟩:=hrel;cases gk with
  |zero=>exact absurd HA.o (by simp[spec_l18Next.l0])
  | succ k1=>
   have H:=HA.o;clear HA;simp only[spec_l18Next.l0]at H;obtain⟨z8_0,z8_1,z8_2,y8_0,y8_1,y8_2⟩:=d3_ Q101;by_cases c4:x5_1<(l0_1.length:Int);rotate_left
   ·rw[iN c4]at H;have c4b0:=df_ c4;clear c4;obtain rfl:=Option.some.inj H;go_wp2
    go_ret
    exact⟨rt_,be1_ HB.o G101.o⟩
   rw[iP c4]at H;have c4b0:=dt_ c4;clear c4;obtain⟨c5b0,H⟩:=iq_ H;obtain⟨t104,A6,H⟩:=ob_ H;obtain⟨p102,q102⟩:=pq_ x5_1 (l0_1.length:Int);obtain⟨ad102,e102,X102_0,X102_1,X102_2⟩:=at_T81 HR0_1.o x5_1 p102 q102;cases e102;replace X102_0:=mv_ HB.o X102_0;replace X102_1:=mv_ HB.o X102_1;replace X102_2:=mv_ HB.o X102_2;obtain⟨p102,q102⟩:=et_ p102 q102;by_cases c7:t104=true;rotate_left
   ·replace c7:=Bool.eq_false_iff.mpr c7;subst c7;rw[iN nft_]at H;have H':=q_ H;clear H
    go_wp2_with(first| (go_at_call 60;(with_reducible refine(spec_l1In.calls a1 ((rd_T81 l0_1 x5_1).f0) ((rd_T81 l0_1 x5_1).f1) false _ A6.o).mono ?_);rintro e w' ⟨rfl,⟨nd,rfl⟩⟩))
    repeat(go_quiet ((go_at_call 60;(with_reducible refine(spec_l1In.calls a1 ((rd_T81 l0_1 x5_1).f0) ((rd_T81 l0_1 x5_1).f1) false _ A6.o).mono ?_);rintro e w' ⟨rfl,⟨nd,rfl⟩⟩;(try first|exact⟨rfl,_,World.drewN_drewN _ _ _⟩|exact⟨rfl,_,Eq.trans (World.drewN_drewN _ _ _) (congrArg (World.drewN _) (Nat.add_assoc _ _ _))⟩)));try go_wp2_with(first| (go_at_call 60;(with_reducible refine(spec_l1In.calls a1 ((rd_T81 l0_1 x5_1).f0) ((rd_T81 l0_1 x5_1).f1) false _ A6.o).mono ?_);rintro e w' ⟨rfl,⟨nd,rfl⟩⟩)))
    go_roundg k1
    case measure=>have:=HK1.o;omega
    case rel=>exact⟨(wrap64 (x5_1+1)),rs_,H',⟨by have:=HK1.o;omega⟩,⟨bk_ Q101.o⟩,⟨be1_ HB.o G101.o⟩⟩
   subst c7;rw[iP rfl]at H;obtain rfl:=Option.some.inj H
   go_wp2_with(first| (go_at_call 60;(with_reducible refine(spec_l1In.calls a1 ((rd_T81 l0_1 x5_1).f0) ((rd_T81 l0_1 x5_1).f1) true _ A6.o).mono ?_);rintro e w' ⟨rfl,⟨nd,rfl⟩⟩;obtain⟨p105,q105⟩:=pq_ x5_1 (l0_1.length:Int);obtain⟨ad105,e105,X105_0,X105_1,X105_2⟩:=at_T81 HR0_1.o x5_1 p105 q105;obtain rfl:ad102=ad105:=(by injection e105);replace X105_0:=mv_ HB.o X105_0;replace X105_1:=mv_ HB.o X105_1;replace X105_2:=mv_ HB.o X105_2;replace p105:=eq_true p105;replace q105:=eq_true q105))
   repeat(go_quiet ((go_at_call 60;(with_reducible refine(spec_l1In.calls a1 ((rd_T81 l0_1 x5_1).f0) ((rd_T81 l0_1 x5_1).f1) true _ A6.o).mono ?_);rintro e w' ⟨rfl,⟨nd,rfl⟩⟩;(try first|exact⟨rfl,_,World.drewN_drewN _ _ _⟩|exact⟨rfl,_,Eq.trans (World.drewN_drewN _ _ _) (congrArg (World.drewN _) (Nat.add_assoc _ _ _))⟩);obtain⟨p105,q105⟩:=pq_ x5_1 (l0_1.length:Int);obtain⟨ad105,e105,X105_0,X105_1,X105_2⟩:=at_T81 HR0_1.o x5_1 p105 q105;obtain rfl:ad102=ad105:=(by injection e105);replace X105_0:=mv_ HB.o X105_0;replace X105_1:=mv_ HB.o X105_1;replace X105_2:=mv_ HB.o X105_2;replace p105:=eq_true p105;replace q105:=eq_true q105));try go_wp2_with(first| (go_at_call 60;(with_reducible refine(spec_l1In.calls a1 ((rd_T81 l0_1 x5_1).f0) ((rd_T81 l0_1 x5_1).f1) true _ A6.o).mono ?_);rintro e w' ⟨rfl,⟨nd,rfl⟩⟩;obtain⟨p105,q105⟩:=pq_ x5_1 (l0_1.length:Int);obtain⟨ad105,e105,X105_0,X105_1,X105_2⟩:=at_T81 HR0_1.o x5_1 p105 q105;obtain rfl:ad102=ad105:=(by injection e105);replace X105_0:=mv_ HB.o X105_0;replace X105_1:=mv_ HB.o X105_1;replace X105_2:=mv_ HB.o X105_2;replace p105:=eq_true p105;replace q105:=eq_true q105)))
   go_ret
   exact⟨rt_,be1_ HB.o G101.o⟩
mutual
def spec_RunCode.j0:Nat→ByteArray→Int→Bool→List (S79)→Option (Int × Int)
 |0,_,_,_,_=>none
 |k+1,x1,x2,x26,x102000=>if x26=true then(some ((-1),(-1)))else(spec_RunCode.l0 k x1 0 (-1) (-1) x2 x102000)
def spec_RunCode.l0:Nat→ByteArray→Int→Int→Int→Int→List (S79)→Option (Int × Int)
 |0,_,_,_,_,_,_=>none
 |k+1,x1,x8,x9,x10,x11,x102000=>if x11<(x1.size:Int)then(if 0≤x8 then(if x8<(x102000.length:Int)then(if 0≤x11 then((spec_l18Next.f k ((rd_T79 x102000 x8).f0) ((rd_T79 x102000 x8).f1) ((rd_T79 x102000 x8).f2) (wrap64 (bt x1 x11))).bind fun t105=>(if 0≤t105 then(if t105<(x102000.length:Int)then(if((rd_T79 x102000 t105).f0)≥0 then(spec_RunCode.l0 k x1 t105 (wrap64 (x11+1)) ((rd_T79 x102000 t105).f0) (wrap64 (x11+1)) x102000)else(spec_RunCode.l0 k x1 t105 x9 x10 (wrap64 (x11+1)) x102000))else(none))else(none)))else(none))else(none))else(none))else(some (x9,x10))
end
def spec_RunCode.f(k:Nat)(l0_0:List (S79))(a1:ByteArray)(a2:Int):Option (Int × Int):=(spec_CodeOk.f k l0_0).bind fun t102=>(if t102=true then(if(a1.size:Int)>20000 then(spec_RunCode.j0 k a1 a2 true l0_0)else((spec_l1In.f a2 0 (a1.size:Int)).bind fun t103=>(spec_RunCode.j0 k a1 a2 (!t103) l0_0)))else(spec_RunCode.j0 k a1 a2 true l0_0))
def spec_RunCode.T9:Bool × List (List Nat × List Nat):=(true,[([],[]),([0],[0]),([],[]),([1,2],[1,2]),([3],[3]),([],[]),([],[]),([5,6],[5,6]),([7],[7]),([4,8],[4,8]),([9,9,0,1,2,3,4,5,6,7,8,9],[2,9])])
def spec_RunCode.B9:List Nat:=[0,1,0,7,15,0,0,96,224,511,1023]
theorem spec_RunCode.tab9:rtab .any (opsOf Try.f28 9)=spec_RunCode.T9:=by kernel_rfl
theorem spec_RunCode.bits9:waitsOk spec_RunCode.T9.2 spec_RunCode.B9=true:=by kernel_rfl
theorem spec_RunCode.calls(k:Nat)(A0_0:Option Addr)(c0_0:Nat)(l0_0:List (S79))(a1:ByteArray)(a2:Int)(r1:Int)(r2:Int)(w:World)(hr0_0:Kd.C k79 w A0_0 l0_0.length l0_0)(hc0_0:l0_0.length≤c0_0)(h:spec_RunCode.f k l0_0 a1 a2=some (r1,r2)):
  Calls Try.prog 28 #[.agg #[.slice A0_0 l0_0.length c0_0], .string a1, .int .i64 a2] w fun e w'=>e= .returned (.tuple #[.int .i64 r1, .int .i64 r2])∧Below w.heap.size w w':=by
 have hu29:=Try.underlying29;have hu79:=Try.underlying79;have HR0_0:=q_ hr0_0;have HC0_0:=q_ hc0_0;clear hr0_0 hc0_0;have HB:=q_ (Below.refl w.heap.size w);have H:((spec_CodeOk.f k l0_0).bind fun t102=>(if t102=true then(if(a1.size:Int)>20000 then(spec_RunCode.j0 k a1 a2 true l0_0)else((spec_l1In.f a2 0 (a1.size:Int)).bind fun t103=>(spec_RunCode.j0 k a1 a2 (!t103) l0_0)))else(spec_RunCode.j0 k a1 a2 true l0_0)))=some (r1,r2):=h;clear h;have HC4:=q_ H;clear H;go_enter Try.func28,Try.ntmps28;go_upto_region 1 with(((with_reducible refine gate_dst (N:=3) rfl ?_);(try(refine gate_guard (by rfl) ?_;dsimp only));refine bx_ 3 #[.slice A0_0 l0_0.length c0_0] 29 ?_;intro gb101 hg w5 hbox hb;have Q101:=q_ (hbox);have G101:=ge_ hg HB;replace HB:=sb_ HB hb;clear hb hbox hg))
 go_cut [26] (fun v26 wc=>∃(kq:Nat) (x26_3:Bool),v26= .bool x26_3∧J0 (spec_RunCode.j0 kq a1 a2 x26_3 l0_0=some (r1,r2))∧J0 (kq≤k)∧J0 (wc.heap[gb101]? =some (.cells #[(.slice A0_0 l0_0.length c0_0)] 29 (0,0)))∧J0 (Below w.heap.size w wc))
 case first=>
  have H:=HC4.o;clear HC4;obtain⟨t102,A6,H⟩:=ob_ H;by_cases c7:t102=true;rotate_left
  ·replace c7:=Bool.eq_false_iff.mpr c7;subst c7;rw[iN nft_]at H;have H':=q_ H;clear H;obtain⟨z14_0,y14_0⟩:=d1_ Q101
   go_wp2_with(((with_reducible refine gate_callee (f:=69) rfl ?_);refine gl_ (some 13) rfl rfl Try.func69 #[.agg #[.slice A0_0 l0_0.length c0_0]] ?_;(with_reducible refine(spec_CodeOk.calls k _ _ l0_0 false _ ?side1 ?side2 A6.o).mono ?_);(case side1=>exact Kd.C_below HR0_0.o (be_ HB.o));(case side2=>exact HC0_0.o);rintro e w15 ⟨rfl,hb⟩;refine⟨_,rfl,?_⟩;replace Q101:=lb_ Q101 hb;replace HB:=sb1_ HB G101 hb;clear hb))
   go_meet
   case rel=>exact⟨_,(true),rs_,H',⟨by omega⟩,⟨bk_ Q101.o⟩,⟨be1_ HB.o G101.o⟩⟩
  subst c7;rw[iP rfl]at H
  (skip)
  obtain⟨z9_0,y9_0⟩:=d1_ Q101;by_cases c8:(a1.size:Int)>20000
  ·rw[iP c8]at H;have c8b0:decide (20000<(a1.size:Int))=true:=dt_ c8;have c8b1:decide (20000<a1.size)=true:=decide_eq_true (by omega);clear c8;have H':=q_ H;clear H
   go_wp2_with(((with_reducible refine gate_callee (f:=69) rfl ?_);refine gl_ (some 13) rfl rfl Try.func69 #[.agg #[.slice A0_0 l0_0.length c0_0]] ?_;(with_reducible refine(spec_CodeOk.calls k _ _ l0_0 true _ ?side1 ?side2 A6.o).mono ?_);(case side1=>exact Kd.C_below HR0_0.o (be_ HB.o));(case side2=>exact HC0_0.o);rintro e w10 ⟨rfl,hb⟩;refine⟨_,rfl,?_⟩;replace Q101:=lb_ Q101 hb;replace HB:=sb1_ HB G101 hb;clear hb))
   go_meet
   case rel=>exact⟨_,(true),rs_,H',⟨by omega⟩,⟨bk_ Q101.o⟩,⟨be1_ HB.o G101.o⟩⟩
  rw[iN c8]at H;have c8b0:decide (20000<(a1.size:Int))=false:=df_ c8;have c8b1:decide (20000<a1.size)=false:=decide_eq_false (by omega);clear c8;obtain⟨t103,A11,H⟩:=ob_ H;have H':=q_ H;clear H
  go_wp2_with(first| ((with_reducible refine gate_callee (f:=69) rfl ?_);refine gl_ (some 13) rfl rfl Try.func69 #[.agg #[.slice A0_0 l0_0.length c0_0]] ?_;(with_reducible refine(spec_CodeOk.calls k _ _ l0_0 true _ ?side1 ?side2 A6.o).mono ?_);(case side1=>exact Kd.C_below HR0_0.o (be_ HB.o));(case side2=>exact HC0_0.o);rintro e w13 ⟨rfl,hb⟩;refine⟨_,rfl,?_⟩;replace Q101:=lb_ Q101 hb;replace HB:=sb1_ HB G101 hb;clear hb)| (go_at_call 60;(with_reducible refine(spec_l1In.calls a2 0 (a1.size:Int) t103 _ A11.o).mono ?_);rintro e w' ⟨rfl,⟨nd,rfl⟩⟩))
  go_meet
  case rel=>exact⟨_,(!t103),rs_,H',⟨by omega⟩,⟨bk_ Q101.o⟩,⟨be1_ HB.o G101.o⟩⟩
 case rest=>
  clear HC4;obtain⟨kq,x26_3,rfl,HA,HJ3,Q101,HB⟩:=hcut;cases kq with
  |zero=>exact absurd HA.o (by simp[spec_RunCode.j0])
  | succ kj3=>
   have H:=HA.o;clear HA;simp only[spec_RunCode.j0]at H;by_cases c16:x26_3=true
   ·subst c16;rw[iP rfl]at H;simp only[Option.some.injEq,Prod.mk.injEq]at H;obtain⟨rfl,rfl⟩:=H;go_wp2
    go_ret2
    exact⟨rt_,be1_ HB.o G101.o⟩
   replace c16:=Bool.eq_false_iff.mpr c16;subst c16;rw[iN nft_]at H;have H':=q_ H;clear H;go_wp2
   go_loopg [8,9,10,11] kj3 (fun kq v8 v9 v10 v11 w'=>∃(x8_2:Int) (x9_2:Int) (x10_2:Int) (x11_2:Int),v8= .int .i64 x8_2∧v9= .int .i64 x9_2∧v10= .int .i64 x10_2∧v11= .int .i64 x11_2∧J0 (spec_RunCode.l0 kq a1 x8_2 x9_2 x10_2 x11_2 l0_0=some (r1,r2))∧J0 (kq≤kj3)∧J0 (w'.heap[gb101]? =some (.cells #[(.slice A0_0 l0_0.length c0_0)] 29 (0,0)))∧J0 (Below w.heap.size w w'))
   case atStart=>exact⟨(0),((-1)),((-1)),(a2),rs_,rs_,rs_,rs_,H',⟨Nat.le_refl _⟩,⟨bk_ Q101.o⟩,⟨be1_ HB.o G101.o⟩⟩
   case round=>
    clear H';obtain⟨x8_2,x9_2,x10_2,x11_2,rfl,rfl,rfl,rfl,HA,HK2,Q101,HB⟩:=hrel;cases gk with
    |zero=>exact absurd HA.o (by simp[spec_RunCode.l0])
    | succ k2=>
     have H:=HA.o;clear HA;simp only[spec_RunCode.l0]at H;by_cases c17:x11_2<(a1.size:Int);rotate_left
     ·rw[iN c17]at H;have d17:=df_ c17;clear c17;simp only[Option.some.injEq,Prod.mk.injEq]at H;obtain⟨rfl,rfl⟩:=H;go_wp2
      go_ret2
      exact⟨rt_,be1_ HB.o G101.o⟩
     rw[iP c17]at H;have d17:=dt_ c17;clear c17;obtain⟨d18,H⟩:=iq_ H;obtain⟨d19,H⟩:=iq_ H;obtain⟨d20,H⟩:=iq_ H;obtain⟨t105,A22,H⟩:=ob_ H;obtain⟨d23,H⟩:=iq_ H;obtain⟨d24,H⟩:=iq_ H;by_cases c25:((rd_T79 l0_0 t105).f0)≥0;rotate_left
     ·rw[iN c25]at H;have d25:decide (0≤((rd_T79 l0_0 t105).f0))=false:=df_ c25;clear c25;have H':=q_ H;clear H
      try go_wp2
      replace Q101:=q_ (blk_drew Q101.o);replace HB:=q_ (below_drew1 HB.o);obtain⟨p104,q104⟩:=pq_ x8_2 (l0_0.length:Int);obtain⟨ad104,A104_1,c104_1,e104,X104_0,X104_1,X104_2,hl104_1,hi104_1⟩:=at_T79 HR0_0.o x8_2 p104 q104;have hw104_2:=X104_2;have hw104_1:=X104_1;have hw104_0:=X104_0;cases e104;replace X104_0:=mv_ HB.o X104_0;replace X104_1:=mv_ HB.o X104_1;replace X104_2:=mv_ HB.o X104_2;have HR104_1:=q_ hi104_1;have HC104_1:=q_ hl104_1;clear hi104_1 hl104_1;obtain⟨p104,q104⟩:=et_ p104 q104;obtain⟨p21,q21⟩:=pq_ x11_2 (a1.size:Int);have hx21:=bt_at a1 x11_2;obtain⟨p21,q21⟩:=et_ p21 q21;refine start_ (n:=11) (S:=fun w'=>w'.cell? ⟨gb101,0,none⟩=some (.slice (some ad104) l0_0.length c0_0)∧w'.cell? (ad104.add ((x8_2).toNat*3))=some (.int .i64 ((rd_T79 l0_0 x8_2).f0))∧w'.cell? ⟨(ad104.add ((x8_2).toNat*3)).block,(ad104.add ((x8_2).toNat*3)).off+1,none⟩=some (.slice A104_1 ((rd_T79 l0_0 x8_2).f1).length c104_1)∧w'.cell? ⟨(ad104.add ((x8_2).toNat*3)).block,(ad104.add ((x8_2).toNat*3)).off+2,none⟩=some (.int .i64 ((rd_T79 l0_0 x8_2).f2))) (ds:=[]) (bb 11 0) (by kernel_rfl) rfl rfl ⟨(blk_cell Q101.o 0).trans rfl,(mv_ HB.o hw104_0),(mv_ HB.o hw104_1),(mv_ HB.o hw104_2)⟩ (fun hHeld=>?_);refine with_tabW spec_RunCode.tab9 spec_RunCode.bits9 (fun HT_ HW_=>?_);generalize wr.drew=w29 at Q101 HB HR104_1 X104_0 X104_1 X104_2 hHeld ⊢;refine pv_ 0 34 1 HT_.o ?_;refine pv_ 2 36 5 HT_.o ?_;refine pv_ 5 39 37 HT_.o ?_;refine pv_ 6 40 101 HT_.o ?_;refine tv_ 1 35 103 HT_.o HW_.o hHeld ?_;refine pv_ 3 37 111 HT_.o ?_;refine tv_ 4 38 127 HT_.o HW_.o hHeld ?_;refine tv_ 7 41 255 HT_.o HW_.o hHeld ?_;refine pv_ 8 42 511 HT_.o ?_;refine one_ (i:=9) (N:=some 43) (bb 11 1023) rfl rfl (one_of HT_.o (by kernel_rfl)) (by decide) (fun K hK=>?_);refine gs_ Try.func72 #[.agg #[.int .i64 ((rd_T79 l0_0 x8_2).f0), .slice A104_1 ((rd_T79 l0_0 x8_2).f1).length c104_1, .int .i64 ((rd_T79 l0_0 x8_2).f2)], .int .i64 (wrap64 (bt a1 x11_2))] ?_
      with_reducible refine(spec_l18Next.calls k2 ((rd_T79 l0_0 x8_2).f0) _ _ ((rd_T79 l0_0 x8_2).f1) ((rd_T79 l0_0 x8_2).f2) (wrap64 (bt a1 x11_2)) t105 _ ?side1 ?side2 A22.o).mono ?_
      (case side1=>exact Kd.C_below HR104_1.o (be_ HB.o));(case side2=>exact HC104_1.o);rintro e w30 ⟨rfl,hb⟩;refine⟨_,rfl,?_⟩;replace Q101:=lb_ Q101 hb;replace HB:=sb1_ HB G101 hb;clear hb;refine hK.out _ _ ⟨(blk_cell Q101.o 0).trans rfl,(mv_ HB.o hw104_0),(mv_ HB.o hw104_1),(mv_ HB.o hw104_2)⟩ (fun hHeld=>?_);clear hK K;refine no_ (some 43) ?_;refine pv_ 10 8 2047 HT_.o ?_;refine done_ (done_of HT_.o (by kernel_rfl)) ?_;obtain⟨z31_0,y31_0⟩:=d1_ Q101;obtain⟨p106,q106⟩:=pq_ t105 (l0_0.length:Int);obtain⟨ad106,A106_1,c106_1,e106,X106_0,X106_1,X106_2,hl106_1,hi106_1⟩:=at_T79 HR0_0.o t105 p106 q106;obtain rfl:ad104=ad106:=(by injection e106);replace X106_0:=mv_ HB.o X106_0;replace X106_1:=mv_ HB.o X106_1;replace X106_2:=mv_ HB.o X106_2;have HR106_1:=q_ hi106_1;have HC106_1:=q_ hl106_1;clear hi106_1 hl106_1;obtain⟨p106,q106⟩:=et_ p106 q106
      try go_wp2
      go_roundg k2
      case measure=>have:=HJ3.o;have:=HK2.o;omega
      case rel=>exact⟨(t105),(x9_2),(x10_2),(wrap64 (x11_2+1)),rs_,rs_,rs_,rs_,H',⟨by have:=HJ3.o;have:=HK2.o;omega⟩,⟨bk_ Q101.o⟩,⟨be1_ HB.o G101.o⟩⟩
     rw[iP c25]at H;have d25:decide (0≤((rd_T79 l0_0 t105).f0))=true:=dt_ c25;clear c25;have H':=q_ H;clear H
     try go_wp2
     replace Q101:=q_ (blk_drew Q101.o);replace HB:=q_ (below_drew1 HB.o);obtain⟨p104,q104⟩:=pq_ x8_2 (l0_0.length:Int);obtain⟨ad104,A104_1,c104_1,e104,X104_0,X104_1,X104_2,hl104_1,hi104_1⟩:=at_T79 HR0_0.o x8_2 p104 q104;have hw104_2:=X104_2;have hw104_1:=X104_1;have hw104_0:=X104_0;cases e104;replace X104_0:=mv_ HB.o X104_0;replace X104_1:=mv_ HB.o X104_1;replace X104_2:=mv_ HB.o X104_2;have HR104_1:=q_ hi104_1;have HC104_1:=q_ hl104_1;clear hi104_1 hl104_1;obtain⟨p104,q104⟩:=et_ p104 q104;obtain⟨p21,q21⟩:=pq_ x11_2 (a1.size:Int);have hx21:=bt_at a1 x11_2;obtain⟨p21,q21⟩:=et_ p21 q21;refine start_ (n:=11) (S:=fun w'=>w'.cell? ⟨gb101,0,none⟩=some (.slice (some ad104) l0_0.length c0_0)∧w'.cell? (ad104.add ((x8_2).toNat*3))=some (.int .i64 ((rd_T79 l0_0 x8_2).f0))∧w'.cell? ⟨(ad104.add ((x8_2).toNat*3)).block,(ad104.add ((x8_2).toNat*3)).off+1,none⟩=some (.slice A104_1 ((rd_T79 l0_0 x8_2).f1).length c104_1)∧w'.cell? ⟨(ad104.add ((x8_2).toNat*3)).block,(ad104.add ((x8_2).toNat*3)).off+2,none⟩=some (.int .i64 ((rd_T79 l0_0 x8_2).f2))) (ds:=[]) (bb 11 0) (by kernel_rfl) rfl rfl ⟨(blk_cell Q101.o 0).trans rfl,(mv_ HB.o hw104_0),(mv_ HB.o hw104_1),(mv_ HB.o hw104_2)⟩ (fun hHeld=>?_);refine with_tabW spec_RunCode.tab9 spec_RunCode.bits9 (fun HT_ HW_=>?_);generalize wr.drew=w26 at Q101 HB HR104_1 X104_0 X104_1 X104_2 hHeld ⊢;refine pv_ 0 34 1 HT_.o ?_;refine pv_ 2 36 5 HT_.o ?_;refine pv_ 5 39 37 HT_.o ?_;refine pv_ 6 40 101 HT_.o ?_;refine tv_ 1 35 103 HT_.o HW_.o hHeld ?_;refine pv_ 3 37 111 HT_.o ?_;refine tv_ 4 38 127 HT_.o HW_.o hHeld ?_;refine tv_ 7 41 255 HT_.o HW_.o hHeld ?_;refine pv_ 8 42 511 HT_.o ?_;refine one_ (i:=9) (N:=some 43) (bb 11 1023) rfl rfl (one_of HT_.o (by kernel_rfl)) (by decide) (fun K hK=>?_);refine gs_ Try.func72 #[.agg #[.int .i64 ((rd_T79 l0_0 x8_2).f0), .slice A104_1 ((rd_T79 l0_0 x8_2).f1).length c104_1, .int .i64 ((rd_T79 l0_0 x8_2).f2)], .int .i64 (wrap64 (bt a1 x11_2))] ?_
     with_reducible refine(spec_l18Next.calls k2 ((rd_T79 l0_0 x8_2).f0) _ _ ((rd_T79 l0_0 x8_2).f1) ((rd_T79 l0_0 x8_2).f2) (wrap64 (bt a1 x11_2)) t105 _ ?side1 ?side2 A22.o).mono ?_
     (case side1=>exact Kd.C_below HR104_1.o (be_ HB.o));(case side2=>exact HC104_1.o);rintro e w27 ⟨rfl,hb⟩;refine⟨_,rfl,?_⟩;replace Q101:=lb_ Q101 hb;replace HB:=sb1_ HB G101 hb;clear hb;refine hK.out _ _ ⟨(blk_cell Q101.o 0).trans rfl,(mv_ HB.o hw104_0),(mv_ HB.o hw104_1),(mv_ HB.o hw104_2)⟩ (fun hHeld=>?_);clear hK K;refine no_ (some 43) ?_;refine pv_ 10 8 2047 HT_.o ?_;refine done_ (done_of HT_.o (by kernel_rfl)) ?_;obtain⟨z28_0,y28_0⟩:=d1_ Q101;obtain⟨p106,q106⟩:=pq_ t105 (l0_0.length:Int);obtain⟨ad106,A106_1,c106_1,e106,X106_0,X106_1,X106_2,hl106_1,hi106_1⟩:=at_T79 HR0_0.o t105 p106 q106;obtain rfl:ad104=ad106:=(by injection e106);replace X106_0:=mv_ HB.o X106_0;replace X106_1:=mv_ HB.o X106_1;replace X106_2:=mv_ HB.o X106_2;have HR106_1:=q_ hi106_1;have HC106_1:=q_ hl106_1;clear hi106_1 hl106_1;obtain⟨p106,q106⟩:=et_ p106 q106
     try go_wp2
     go_roundg k2
     case measure=>have:=HJ3.o;have:=HK2.o;omega
     case rel=>exact⟨(t105),(wrap64 (x11_2+1)),((rd_T79 l0_0 t105).f0),(wrap64 (x11_2+1)),rs_,rs_,rs_,rs_,H',⟨by have:=HJ3.o;have:=HK2.o;omega⟩,⟨bk_ Q101.o⟩,⟨be1_ HB.o G101.o⟩⟩
/-! ### laws_FnMachineMeans: function 6 -/
def laws_FnMachineMeans.j0:Nat→ByteArray→Int→List (S105)→Bool→List (S79)→Option (Bool)
 |0,_,_,_,_,_=>none
 |k+1,x4,x5,x8,x52,x108000=>if x52=true then(some true)else((impl_RunMachine.f k x8 x4 x5 (wrap64 ((wrap64 (772*(x4.size:Int)))+3))).bind fun bt116=>((spec_RunCode.f k x108000 x4 x5).bind fun bt119=>(if bt116.2.2=0 then(if bt116.1=bt119.1 then(if bt116.2.1=bt119.2 then((impl_MachineOk.f k x8).bind fun t121=>(some t121))else(some false))else(some false))else(some false))))
def laws_FnMachineMeans.f(k:Nat)(l0:List Int):Option (Bool):=(laws_big.f l0).bind fun t101=>(if t101=true then(some true)else((spec_DrawRunCode.f k l0).bind fun bt102=>((spec_Compile.f k bt102.1).bind fun bt108=>((impl_Compile.f k bt102.1).bind fun bt112=>(if(bt112.2 != bt108.2)=true then(some false)else(if bt108.2=true then(if(bt102.2.1.size:Int)>200 then(laws_FnMachineMeans.j0 k bt102.2.1 bt102.2.2 bt112.1 true bt102.1)else(if bt102.2.2<0 then(laws_FnMachineMeans.j0 k bt102.2.1 bt102.2.2 bt112.1 true bt102.1)else(laws_FnMachineMeans.j0 k bt102.2.1 bt102.2.2 bt112.1 (decide (bt102.2.2>(bt102.2.1.size:Int))) bt102.1)))else(laws_FnMachineMeans.j0 k bt102.2.1 bt102.2.2 bt112.1 true bt102.1)))))))
theorem laws_FnMachineMeans.calls(k:Nat)(A0:Option Addr)(c0:Nat)(l0:List Int)(r:Bool)(w:World)(hr0:Kd.C (Kd.int .u8) w A0 l0.length l0)(hc0:l0.length≤c0)(h:laws_FnMachineMeans.f k l0=some r):
  Calls Try.prog 6 #[.slice A0 l0.length c0] w fun e w'=>e= .returned (.bool r)∧Below w.heap.size w w':=by
 have hu29:=Try.underlying29;have HR0:=q_ hr0;have HC0:=q_ hc0;clear hr0 hc0;have HB:=q_ (Below.refl w.heap.size w);have H:((laws_big.f l0).bind fun t101=>(if t101=true then(some true)else((spec_DrawRunCode.f k l0).bind fun bt102=>((spec_Compile.f k bt102.1).bind fun bt108=>((impl_Compile.f k bt102.1).bind fun bt112=>(if(bt112.2 != bt108.2)=true then(some false)else(if bt108.2=true then(if(bt102.2.1.size:Int)>200 then(laws_FnMachineMeans.j0 k bt102.2.1 bt102.2.2 bt112.1 true bt102.1)else(if bt102.2.2<0 then(laws_FnMachineMeans.j0 k bt102.2.1 bt102.2.2 bt112.1 true bt102.1)else(laws_FnMachineMeans.j0 k bt102.2.1 bt102.2.2 bt112.1 (decide (bt102.2.2>(bt102.2.1.size:Int))) bt102.1)))else(laws_FnMachineMeans.j0 k bt102.2.1 bt102.2.2 bt112.1 true bt102.1))))))))=some r:=h;clear h;obtain⟨t101,A2,H⟩:=ob_ H;by_cases c3:t101=true
 ·subst c3;rw[iP rfl]at H;obtain rfl:=Option.some.inj H;go_enter Try.func6,Try.ntmps6
  go_wp2_with(((with_reducible refine gate_callee (f:=17) rfl ?_);refine gl_ (some 16) rfl rfl Try.func17 #[.slice A0 l0.length c0] ?_;(with_reducible refine(laws_big.calls _ _ l0 true _ ?side1 ?side2 A2.o).mono ?_);(case side1=>exact HR0.o);(case side2=>exact HC0.o);rintro e w' ⟨rfl,⟨nd,rfl⟩⟩;refine⟨_,rfl,?_⟩))
  go_ret
  exact⟨rt_,be_ HB.o⟩
 replace c3:=Bool.eq_false_iff.mpr c3;subst c3;rw[iN nft_]at H;replace H:=Option.bind_eq_some_iff.mp H;obtain⟨⟨t102,t105,t106⟩,A40,H⟩:=H;dsimp only at H;have A4:=q_ A40;clear A40;replace H:=Option.bind_eq_some_iff.mp H;obtain⟨⟨t108,t111⟩,A50,H⟩:=H;dsimp only at H;have A5:=q_ A50;clear A50;replace H:=Option.bind_eq_some_iff.mp H;obtain⟨⟨t112,t115⟩,A60,H⟩:=H;dsimp only at H;have A6:=q_ A60;clear A60;by_cases c7:(t115 != t111)=true
 ·rw[iP c7]at H;have c7b0:(t115 != t111)=true:=c7
  (try(have c7b1:decide (t115=t111)=false:=by simpa using c7))
  (try(have c7b2:(t115==t111)=false:=by simpa using c7))
  (try(have c7b3:¬(t115=t111):=by simpa using c7))
  clear c7;obtain rfl:=Option.some.inj H;go_enter Try.func6,Try.ntmps6
  go_wp2_with(first| ((with_reducible refine gate_callee (f:=17) rfl ?_);refine gl_ (some 16) rfl rfl Try.func17 #[.slice A0 l0.length c0] ?_;(with_reducible refine(laws_big.calls _ _ l0 false _ ?side1 ?side2 A2.o).mono ?_);(case side1=>exact HR0.o);(case side2=>exact HC0.o);rintro e w' ⟨rfl,⟨nd,rfl⟩⟩;refine⟨_,rfl,?_⟩)| ((with_reducible refine gate_callee (f:=25) rfl ?_);refine gl_ (some 19) rfl rfl Try.func25 #[.slice A0 l0.length c0] ?_;(with_reducible refine(spec_DrawRunCode.calls k _ _ l0 t102 t105 t106 _ ?side1 ?side2 A4.o).mono ?_);(case side1=>exact HR0.o);(case side2=>exact HC0.o);rintro e w8 ⟨v103,rfl,ho0,hb⟩;refine⟨_,rfl,?_⟩;have O104:=q_ (Kd.S_lower ho0 (below_size (be_ HB.o)));replace HB:=sb_ HB hb;clear hb ho0)| ((with_reducible refine gate_dst (N:=3) rfl ?_);(try(refine gate_guard (by rfl) ?_;dsimp only));refine bx_ 3 #[.slice none 0 0] 29 ?_;intro gb107 hg w9 hbox hb;have Q107:=q_ (hbox);have G107:=ge_ hg HB;replace O104:=bS_ O104 hb;replace HB:=sb_ HB hb;clear hb hbox hg;obtain⟨Ao10,co10,eo10⟩:=Kd.S_slice O104.o;subst eo10;obtain⟨z11_0,y11_0⟩:=d1_ Q107)| ((with_reducible refine gate_callee (f:=26) rfl ?_);refine gl_ (some 25) rfl rfl Try.func26 #[.agg #[.slice Ao10 t102.length co10]] ?_;(with_reducible refine(spec_Compile.calls k _ _ t102 t108 t111 _ ?side1 ?side2 A5.o).mono ?_);(case side1=>refine(Kd.S_reads' (e:=79) (base:=w.heap.size) (ok:=fun k_=>True) (n:=t102.length) (c:=co10) ?_).2.2;exact(Kd.S_mono (rfS_ (Kd.S_types O104.o Q107.o (by decide))) (fun _ h_=>h_.1)));(case side2=>exact(Kd.S_reads' O104.o).2.1);rintro e w12 ⟨v109,rfl,ho0,hb⟩;refine⟨_,rfl,?_⟩;have O110:=q_ (Kd.R_lower ho0 (below_size (be1_ HB.o G107.o)));replace O104:=q_ (Kd.S_below (Kd.S_mono (rfS_ (Kd.S_types O104.o Q107.o (by decide))) (fun _ h_=>h_.1)) hb);replace Q107:=q_ (blk_below (g:=gb107) (o:= .cells #[.slice Ao10 t102.length co10] 29 (0,0)) (bp_ Q107) hb);replace HB:=sb1_ HB G107 hb;clear hb ho0;obtain⟨z13_0,y13_0⟩:=d1_ Q107)| ((with_reducible refine gate_callee (f:=27) rfl ?_);refine gl_ (some 30) rfl rfl Try.func27 #[.agg #[.slice Ao10 t102.length co10]] ?_;(with_reducible refine(impl_Compile.calls k _ _ t102 t112 t115 _ ?side1 ?side2 A6.o).mono ?_);(case side1=>exact ca_ (Kd.S_reads' O104.o).2.2);(case side2=>exact(Kd.S_reads' O104.o).2.1);rintro e w14 ⟨v113,rfl,ho0,hb⟩;refine⟨_,rfl,?_⟩;have O114:=q_ (Kd.R_lower (Kd.R_new' ho0 (Kd.R_lt (ra_ O110.o))) (below_size (be1_ HB.o G107.o)));replace O104:=bS_ O104 hb;replace O110:=eR_ O110 (Kd.R_base ho0) hb;replace Q107:=lb_ Q107 hb;replace HB:=sb1_ HB G107 hb;clear hb ho0))
  go_ret
  exact⟨rt_,be1_ HB.o G107.o⟩
 rw[iN c7]at H;have c7b0:(t115 != t111)=false:=by simpa using c7
 (try(have c7b1:decide (t115=t111)=true:=by simpa using c7))
 (try(have c7b2:(t115==t111)=true:=by simpa using c7))
 clear c7;have HC15:=q_ H;clear H;go_enter Try.func6,Try.ntmps6;go_upto_region 8 with(first| ((with_reducible refine gate_callee (f:=17) rfl ?_);refine gl_ (some 16) rfl rfl Try.func17 #[.slice A0 l0.length c0] ?_;(with_reducible refine(laws_big.calls _ _ l0 false _ ?side1 ?side2 A2.o).mono ?_);(case side1=>exact HR0.o);(case side2=>exact HC0.o);rintro e w' ⟨rfl,⟨nd,rfl⟩⟩;refine⟨_,rfl,?_⟩)| ((with_reducible refine gate_callee (f:=25) rfl ?_);refine gl_ (some 19) rfl rfl Try.func25 #[.slice A0 l0.length c0] ?_;(with_reducible refine(spec_DrawRunCode.calls k _ _ l0 t102 t105 t106 _ ?side1 ?side2 A4.o).mono ?_);(case side1=>exact HR0.o);(case side2=>exact HC0.o);rintro e w16 ⟨v103,rfl,ho0,hb⟩;refine⟨_,rfl,?_⟩;have O104:=q_ (Kd.S_lower ho0 (below_size (be_ HB.o)));replace HB:=sb_ HB hb;clear hb ho0)| ((with_reducible refine gate_dst (N:=3) rfl ?_);(try(refine gate_guard (by rfl) ?_;dsimp only));refine bx_ 3 #[.slice none 0 0] 29 ?_;intro gb107 hg w17 hbox hb;have Q107:=q_ (hbox);have G107:=ge_ hg HB;replace O104:=bS_ O104 hb;replace HB:=sb_ HB hb;clear hb hbox hg;obtain⟨Ao18,co18,eo18⟩:=Kd.S_slice O104.o;subst eo18;obtain⟨z19_0,y19_0⟩:=d1_ Q107)| ((with_reducible refine gate_callee (f:=26) rfl ?_);refine gl_ (some 25) rfl rfl Try.func26 #[.agg #[.slice Ao18 t102.length co18]] ?_;(with_reducible refine(spec_Compile.calls k _ _ t102 t108 t111 _ ?side1 ?side2 A5.o).mono ?_);(case side1=>refine(Kd.S_reads' (e:=79) (base:=w.heap.size) (ok:=fun k_=>True) (n:=t102.length) (c:=co18) ?_).2.2;exact(Kd.S_mono (rfS_ (Kd.S_types O104.o Q107.o (by decide))) (fun _ h_=>h_.1)));(case side2=>exact(Kd.S_reads' O104.o).2.1);rintro e w20 ⟨v109,rfl,ho0,hb⟩;refine⟨_,rfl,?_⟩;have O110:=q_ (Kd.R_lower ho0 (below_size (be1_ HB.o G107.o)));replace O104:=q_ (Kd.S_below (Kd.S_mono (rfS_ (Kd.S_types O104.o Q107.o (by decide))) (fun _ h_=>h_.1)) hb);replace Q107:=q_ (blk_below (g:=gb107) (o:= .cells #[.slice Ao18 t102.length co18] 29 (0,0)) (bp_ Q107) hb);replace HB:=sb1_ HB G107 hb;clear hb ho0;obtain⟨z21_0,y21_0⟩:=d1_ Q107)| ((with_reducible refine gate_callee (f:=27) rfl ?_);refine gl_ (some 30) rfl rfl Try.func27 #[.agg #[.slice Ao18 t102.length co18]] ?_;(with_reducible refine(impl_Compile.calls k _ _ t102 t112 t115 _ ?side1 ?side2 A6.o).mono ?_);(case side1=>exact ca_ (Kd.S_reads' O104.o).2.2);(case side2=>exact(Kd.S_reads' O104.o).2.1);rintro e w22 ⟨v113,rfl,ho0,hb⟩;refine⟨_,rfl,?_⟩;have O114:=q_ (Kd.R_lower (Kd.R_new' ho0 (Kd.R_lt (ra_ O110.o))) (below_size (be1_ HB.o G107.o)));replace O104:=bS_ O104 hb;replace O110:=eR_ O110 (Kd.R_base ho0) hb;replace Q107:=lb_ Q107 hb;replace HB:=sb1_ HB G107 hb;clear hb ho0))
 go_cut [52] (fun v52 wc=>∃(kq:Nat) (x52_14:Bool),v52= .bool x52_14∧J0 (laws_FnMachineMeans.j0 kq t105 t106 t112 x52_14 t102=some r)∧J0 (kq≤k)∧J0 (Kd.R k105 105 wc w.heap.size (fun _=>True) v113 t112)∧J0 (Kd.S k79 79 wc w.heap.size (fun _=>True) (.slice Ao18 t102.length co18) t102)∧J0 (wc.heap[gb107]? =some (.cells #[(.slice Ao18 t102.length co18)] 29 (0,0)))∧J0 (Below w.heap.size w wc))
 case first=>
  have H:=HC15.o;clear HC15;by_cases c23:t111=true;rotate_left
  ·replace c23:=Bool.eq_false_iff.mpr c23;subst c23;rw[iN nft_]at H;have H':=q_ H;clear H;go_wp2
   go_meet
   case rel=>exact⟨_,(true),rs_,H',⟨by omega⟩,⟨mR_ O114 (fun _ hk=>trivial)⟩,⟨sa_ O104.o⟩,⟨bk_ Q107.o⟩,⟨be1_ HB.o G107.o⟩⟩
  subst c23;rw[iP rfl]at H;by_cases c24:(t105.size:Int)>200
  ·rw[iP c24]at H;have d24:decide (200<(t105.size:Int))=true:=dt_ c24;have c24b1:decide (200<t105.size)=true:=decide_eq_true (by omega);clear c24
   (skip)
   have H':=q_ H;clear H;go_wp2;go_meet
   case rel=>exact⟨_,(true),rs_,H',⟨by omega⟩,⟨mR_ O114 (fun _ hk=>trivial)⟩,⟨sa_ O104.o⟩,⟨bk_ Q107.o⟩,⟨be1_ HB.o G107.o⟩⟩
  rw[iN c24]at H;have d24:decide (200<(t105.size:Int))=false:=df_ c24;have c24b1:decide (200<t105.size)=false:=decide_eq_false (by omega);clear c24
  (skip)
  by_cases c25:t106<0
  ·rw[iP c25]at H;have d25:=dt_ c25;clear c25;have H':=q_ H;clear H;go_wp2
   go_meet
   case rel=>exact⟨_,(true),rs_,H',⟨by omega⟩,⟨mR_ O114 (fun _ hk=>trivial)⟩,⟨sa_ O104.o⟩,⟨bk_ Q107.o⟩,⟨be1_ HB.o G107.o⟩⟩
  rw[iN c25]at H;have d25:=df_ c25;clear c25;have H':=q_ H;clear H;go_wp2;go_meet
  case rel=>exact⟨_,(decide (t106>(t105.size:Int))),rs_,H',⟨by omega⟩,⟨mR_ O114 (fun _ hk=>trivial)⟩,⟨sa_ O104.o⟩,⟨bk_ Q107.o⟩,⟨be1_ HB.o G107.o⟩⟩
 case rest=>
  clear HC15 c7b0 c7b1 c7b2 z19_0 z21_0 y19_0 y21_0;obtain⟨kq,x52_14,rfl,HA,HJ14,O_8,O_108000,Q107,HB⟩:=hcut;cases kq with
  |zero=>exact absurd HA.o (by simp[laws_FnMachineMeans.j0])
  | succ kj14=>
   have H:=HA.o;clear HA;simp only[laws_FnMachineMeans.j0]at H;by_cases c26:x52_14=true
   ·subst c26;rw[iP rfl]at H;obtain rfl:=Option.some.inj H;go_wp2
    go_ret
    exact⟨rt_,be1_ HB.o G107.o⟩
   replace c26:=Bool.eq_false_iff.mpr c26;subst c26;rw[iN nft_]at H;replace H:=Option.bind_eq_some_iff.mp H;obtain⟨⟨t116,t117,t118⟩,A270,H⟩:=H;dsimp only at H;have A27:=q_ A270;clear A270;replace H:=Option.bind_eq_some_iff.mp H;obtain⟨⟨t119,t120⟩,A280,H⟩:=H;dsimp only at H;have A28:=q_ A280;clear A280;by_cases c29:t118=0;rotate_left
   ·rw[iN c29]at H;have d29:(t118==0)=false:=beq_eq_false_iff_ne.mpr c29;have c29b1:(t118 != 0)=true:=bne_iff_ne.mpr c29;obtain rfl:=Option.some.inj H;obtain⟨Ao46,co46,eo46⟩:=Kd.R_slice O_8.o;subst eo46
    go_wp2_with(first| ((with_reducible refine gate_callee (f:=24) rfl ?_);refine gl_ (some 61) rfl rfl Try.func24 #[.slice Ao46 t112.length co46, .string t105, .int .i64 t106, .int .i64 (wrap64 ((wrap64 (772*(t105.size:Int)))+3))] ?_;(with_reducible refine(impl_RunMachine.calls kj14 _ _ t112 t105 t106 (wrap64 ((wrap64 (772*(t105.size:Int)))+3)) t116 t117 t118 _ ?side1 ?side2 A27.o).mono ?_);(case side1=>exact ca_ (Kd.R_reads' O_8.o).2.2);(case side2=>exact(Kd.R_reads' O_8.o).2.1);rintro e w47 ⟨rfl,hb⟩;refine⟨_,rfl,?_⟩;replace O_8:=bR_ O_8 hb;replace O_108000:=bS_ O_108000 hb;replace Q107:=lb_ Q107 hb;replace HB:=sb1_ HB G107 hb;clear hb;obtain⟨z48_0,y48_0⟩:=d1_ Q107)| ((with_reducible refine gate_callee (f:=28) rfl ?_);refine gl_ (some 69) rfl rfl Try.func28 #[.agg #[.slice Ao18 t102.length co18], .string t105, .int .i64 t106] ?_;(with_reducible refine(spec_RunCode.calls kj14 _ _ t102 t105 t106 t119 t120 _ ?side1 ?side2 A28.o).mono ?_);(case side1=>exact ca_ (Kd.S_reads' O_108000.o).2.2);(case side2=>exact(Kd.S_reads' O_108000.o).2.1);rintro e w49 ⟨rfl,hb⟩;refine⟨_,rfl,?_⟩;replace O_8:=bR_ O_8 hb;replace O_108000:=bS_ O_108000 hb;replace Q107:=lb_ Q107 hb;replace HB:=sb1_ HB G107 hb;clear hb))
    go_ret
    exact⟨rt_,be1_ HB.o G107.o⟩
   rw[iP c29]at H;have d29:(t118==0)=true:=beq_iff_eq.mpr c29;have c29b1:(t118 != 0)=false:=bne_eq_false_iff_eq.mpr c29;clear c29;by_cases c30:t116=t119;rotate_left
   ·rw[iN c30]at H;have d30:(t116==t119)=false:=beq_eq_false_iff_ne.mpr c30;have c30b1:(t116 != t119)=true:=bne_iff_ne.mpr c30;obtain rfl:=Option.some.inj H;obtain⟨Ao42,co42,eo42⟩:=Kd.R_slice O_8.o;subst eo42
    go_wp2_with(first| ((with_reducible refine gate_callee (f:=24) rfl ?_);refine gl_ (some 61) rfl rfl Try.func24 #[.slice Ao42 t112.length co42, .string t105, .int .i64 t106, .int .i64 (wrap64 ((wrap64 (772*(t105.size:Int)))+3))] ?_;(with_reducible refine(impl_RunMachine.calls kj14 _ _ t112 t105 t106 (wrap64 ((wrap64 (772*(t105.size:Int)))+3)) t116 t117 t118 _ ?side1 ?side2 A27.o).mono ?_);(case side1=>exact ca_ (Kd.R_reads' O_8.o).2.2);(case side2=>exact(Kd.R_reads' O_8.o).2.1);rintro e w43 ⟨rfl,hb⟩;refine⟨_,rfl,?_⟩;replace O_8:=bR_ O_8 hb;replace O_108000:=bS_ O_108000 hb;replace Q107:=lb_ Q107 hb;replace HB:=sb1_ HB G107 hb;clear hb;obtain⟨z44_0,y44_0⟩:=d1_ Q107)| ((with_reducible refine gate_callee (f:=28) rfl ?_);refine gl_ (some 69) rfl rfl Try.func28 #[.agg #[.slice Ao18 t102.length co18], .string t105, .int .i64 t106] ?_;(with_reducible refine(spec_RunCode.calls kj14 _ _ t102 t105 t106 t119 t120 _ ?side1 ?side2 A28.o).mono ?_);(case side1=>exact ca_ (Kd.S_reads' O_108000.o).2.2);(case side2=>exact(Kd.S_reads' O_108000.o).2.1);rintro e w45 ⟨rfl,hb⟩;refine⟨_,rfl,?_⟩;replace O_8:=bR_ O_8 hb;replace O_108000:=bS_ O_108000 hb;replace Q107:=lb_ Q107 hb;replace HB:=sb1_ HB G107 hb;clear hb))
    go_ret
    exact⟨rt_,be1_ HB.o G107.o⟩
   rw[iP c30]at H;have d30:(t116==t119)=true:=beq_iff_eq.mpr c30;have c30b1:(t116 != t119)=false:=bne_eq_false_iff_eq.mpr c30;clear c30;by_cases c31:t117=t120;rotate_left
   ·rw[iN c31]at H;have d31:(t117==t120)=false:=beq_eq_false_iff_ne.mpr c31;have c31b1:(t117 != t120)=true:=bne_iff_ne.mpr c31;obtain rfl:=Option.some.inj H;obtain⟨Ao38,co38,eo38⟩:=Kd.R_slice O_8.o;subst eo38
    go_wp2_with(first| ((with_reducible refine gate_callee (f:=24) rfl ?_);refine gl_ (some 61) rfl rfl Try.func24 #[.slice Ao38 t112.length co38, .string t105, .int .i64 t106, .int .i64 (wrap64 ((wrap64 (772*(t105.size:Int)))+3))] ?_;(with_reducible refine(impl_RunMachine.calls kj14 _ _ t112 t105 t106 (wrap64 ((wrap64 (772*(t105.size:Int)))+3)) t116 t117 t118 _ ?side1 ?side2 A27.o).mono ?_);(case side1=>exact ca_ (Kd.R_reads' O_8.o).2.2);(case side2=>exact(Kd.R_reads' O_8.o).2.1);rintro e w39 ⟨rfl,hb⟩;refine⟨_,rfl,?_⟩;replace O_8:=bR_ O_8 hb;replace O_108000:=bS_ O_108000 hb;replace Q107:=lb_ Q107 hb;replace HB:=sb1_ HB G107 hb;clear hb;obtain⟨z40_0,y40_0⟩:=d1_ Q107)| ((with_reducible refine gate_callee (f:=28) rfl ?_);refine gl_ (some 69) rfl rfl Try.func28 #[.agg #[.slice Ao18 t102.length co18], .string t105, .int .i64 t106] ?_;(with_reducible refine(spec_RunCode.calls kj14 _ _ t102 t105 t106 t119 t120 _ ?side1 ?side2 A28.o).mono ?_);(case side1=>exact ca_ (Kd.S_reads' O_108000.o).2.2);(case side2=>exact(Kd.S_reads' O_108000.o).2.1);rintro e w41 ⟨rfl,hb⟩;refine⟨_,rfl,?_⟩;replace O_8:=bR_ O_8 hb;replace O_108000:=bS_ O_108000 hb;replace Q107:=lb_ Q107 hb;replace HB:=sb1_ HB G107 hb;clear hb))
    go_ret
    exact⟨rt_,be1_ HB.o G107.o⟩
   rw[iP c31]at H;have d31:(t117==t120)=true:=beq_iff_eq.mpr c31;have c31b1:(t117 != t120)=false:=bne_eq_false_iff_eq.mpr c31;clear c31;obtain⟨t121,A32,H⟩:=ob_ H;obtain rfl:=Option.some.inj H;obtain⟨Ao33,co33,eo33⟩:=Kd.R_slice O_8.o;subst eo33
   go_wp2_with(first| ((with_reducible refine gate_callee (f:=24) rfl ?_);refine gl_ (some 61) rfl rfl Try.func24 #[.slice Ao33 t112.length co33, .string t105, .int .i64 t106, .int .i64 (wrap64 ((wrap64 (772*(t105.size:Int)))+3))] ?_;(with_reducible refine(impl_RunMachine.calls kj14 _ _ t112 t105 t106 (wrap64 ((wrap64 (772*(t105.size:Int)))+3)) t116 t117 t118 _ ?side1 ?side2 A27.o).mono ?_);(case side1=>exact ca_ (Kd.R_reads' O_8.o).2.2);(case side2=>exact(Kd.R_reads' O_8.o).2.1);rintro e w34 ⟨rfl,hb⟩;refine⟨_,rfl,?_⟩;replace O_8:=bR_ O_8 hb;replace O_108000:=bS_ O_108000 hb;replace Q107:=lb_ Q107 hb;replace HB:=sb1_ HB G107 hb;clear hb;obtain⟨z35_0,y35_0⟩:=d1_ Q107)| ((with_reducible refine gate_callee (f:=28) rfl ?_);refine gl_ (some 69) rfl rfl Try.func28 #[.agg #[.slice Ao18 t102.length co18], .string t105, .int .i64 t106] ?_;(with_reducible refine(spec_RunCode.calls kj14 _ _ t102 t105 t106 t119 t120 _ ?side1 ?side2 A28.o).mono ?_);(case side1=>exact ca_ (Kd.S_reads' O_108000.o).2.2);(case side2=>exact(Kd.S_reads' O_108000.o).2.1);rintro e w36 ⟨rfl,hb⟩;refine⟨_,rfl,?_⟩;replace O_8:=bR_ O_8 hb;replace O_108000:=bS_ O_108000 hb;replace Q107:=lb_ Q107 hb;replace HB:=sb1_ HB G107 hb;clear hb)| (go_at_call 29;(with_reducible refine(impl_MachineOk.calls kj14 _ _ t112 t121 _ ?side1 ?side2 A32.o).mono ?_);(case side1=>exact ca_ (Kd.R_reads' O_8.o).2.2);(case side2=>exact(Kd.R_reads' O_8.o).2.1);rintro e w37 ⟨rfl,hb⟩;replace O_8:=bR_ O_8 hb;replace O_108000:=bS_ O_108000 hb;replace Q107:=lb_ Q107 hb;replace HB:=sb1_ HB G107 hb;clear hb))
   go_ret
   exact⟨rt_,be1_ HB.o G107.o⟩
end Go.Proofs.Ytlecpdpdcocibaa.P
namespace Go.Proofs.YtlecpdpdcocibaaOpen
open Go.RowKit Go.ChangeShapes Go.WideShapes Go.Proofs.YtlecpdpdcocibaaW.PrintWords
set_option linter.unusedVariables false
set_option linter.unusedSimpArgs false
structure Opens {α:Type} (P:Program) (t:TypeId) (k:Kd α) (G:α→Prop):Prop where
 sz:P.cellsOf t=k.sz
 op:∀ {H:Type} (enc:TypeId × Value→H) (w:World) (base:Nat) (spare:Nat→Bool) (held:Bool) (fuel:Nat) (cs:List Value) (x:DataW H × List MemPlace),DataW.trod enc P w base spare held fuel t cs=some x→∃v,k.K w v cs∧G v
variable {P:Program} {t e:TypeId}
theorem opens_int{k:IntKind}(ht:P.underlying t=some (.int k))(hc:P.cellsOf t=1):Opens P t (Kd.int k) (fun n=>(Lit.int k n).wf=true) where
 sz:=hc
 op:=fun enc w base spare held fuel cs x h=>by
  obtain⟨n,rfl,_,hw⟩:=DataW.trod_int ht h;exact⟨n,rfl,hw⟩
theorem exists_list{α:Type}{p:Nat→α→Prop}:∀n,(∀i,i<n→∃v,p i v)→∃xs:List α,xs.length=n∧∀i v,xs[i]? =some v→p i v
  |0,_=>⟨[],rfl,fun i v h=>by simp at h⟩
  | n + 1,h=>by
    obtain⟨xs,hl,hx⟩:=exists_list n (fun i hi=>h i (by omega));obtain⟨v,hv⟩:=h n (by omega);refine⟨xs++ [v],by simp[hl],fun i u hu=>?_⟩;by_cases hi:i<n
    · rw[List.getElem?_append_left (by omega)]at hu
      exact hx i u hu
    · rw[List.getElem?_append_right (by omega)]at hu
      have:i-xs.length=0:=by
        have:=(List.getElem?_eq_some_iff.1 hu).1;simp at this;omega
      rw[this]at hu;have hi':i=n:=by omega
      subst hi';simp at hu;subst hu;exact hv
theorem opens_slice{α:Type}{k:Kd α}{G:α→Prop}(ht:P.underlying t=some (.slice e))(hc:P.cellsOf t=1)(h:Opens P e k G):Opens P t (Kd.slice e k) (fun xs=>xs.length≤maxLen∧∀x∈xs,G x) where
  sz:=hc
  op := fun enc w base spare held fuel cs x hx=>by
    rcases DataW.trod_slice ht hx with⟨rfl,rfl⟩| ⟨a,len,cap,elems,rest,n,_,rfl,_,_,hl,hm,hlen,hel,_,_⟩
    ·exact⟨[],⟨none,0,rfl,Nat.le_refl _,Kd.C_nil k w⟩,by simp,fun x hx=>absurd hx List.not_mem_nil⟩
    · have each:∀i,i<len→∃v,G v∧∃c,c.length=k.sz∧k.K w v c∧∀j u,c[j]? =some u→w.cell? (a.add (i*k.sz+j))=some u:=by
        intro i hi;have h1:=hel i hi;rw[List.getElem?_eq_getElem (by omega),Option.bind_eq_some_iff,h.sz]at h1;obtain⟨c,hc1,hc2⟩:=h1;obtain⟨v,hv,hg⟩:=h.op enc w base spare held n c _ hc2;obtain⟨_,hcl,hcell⟩:=World.cells?_some hc1;refine⟨v,hg,c,hcl,hv,fun j u hu=>?_⟩;have hj:j<k.sz:=by
         have:=(List.getElem?_eq_some_iff.1 hu).1;omega
        rw[←Addr.add_add,hcell j hj];exact hu
      obtain⟨xs,hxl,hx⟩:=exists_list len each;have hmx:(maxLen:Nat)≤9223372036854775807:=by unfold maxLen;omega
      refine⟨xs,⟨some a,cap,by rw[hxl],by omega,?_⟩,by omega,fun x hx'=>?_⟩
      · refine⟨rfl,by omega,fun _=>⟨a,rfl,fun j p hp=>?_⟩⟩
        obtain⟨_,c,h1,h2,h3⟩:=hx j p hp;exact⟨c,h1,h2,h3⟩
      · obtain⟨i,hi⟩:=List.mem_iff_getElem?.1 hx'
        exact(hx i x hi).1
end Go.Proofs.YtlecpdpdcocibaaOpen
namespace Go.Proofs.Ytlecpdpdcocibaa.P
open Go.RowKit Go.Proofs.YtlecpdpdcocibaaW.PrintWords Go.Proofs.YtlecpdpdcocibaaW.PrintLast Go.Proofs.YtlecpdpdcocibaaW.PrintMore Go.Proofs.YtlecpdpdcocibaaEv
set_option linter.unusedVariables false
set_option linter.unusedSimpArgs false
def Dr(b:List Int)(p:Int):Prop:=(∀x∈b,0≤x∧x≤255)∧0≤p∧p≤b.length∧b.length≤1048576
theorem next_ok{b:List Int}{p:Int}(h:Dr b p):∃v p',spec_l1Rd_next.f b p=some (v,p')∧0≤v∧v≤255∧Dr b p':=by
 obtain⟨hb,h0,h1,h2⟩:=h;unfold spec_l1Rd_next.f;by_cases hp:p≥(b.length:Int)
 ·rw[iP hp]
  exact⟨0,p,rfl,by omega,by omega,hb,h0,h1,h2⟩
 ·rw[iN hp,wrap_id (x:=p+1) (by omega) (by omega),show p+1-1=p by omega,wrap_id (x:=p) (by omega) (by omega),iP h0,iP (by omega)]
  have hm:=hb (rd b p) (by
   unfold rd;rw[List.getD_eq_getElem?_getD,List.getElem?_eq_getElem (by omega)];exact List.getElem_mem _)
  rw[wrap_id (x:=rd b p) (by omega) (by omega)];exact⟨_,_,rfl,hm.1,hm.2,hb,by omega,by omega,h2⟩
theorem tmod_ok{x n:Int}(h0:0≤x)(hn:0<n):0≤Int.tmod x n∧Int.tmod x n<n:=by
 rw[Int.tmod_eq_emod_of_nonneg h0];exact⟨Int.emod_nonneg _ (by omega),Int.emod_lt_of_pos _ hn⟩
theorem below_ok{b:List Int}{p:Int}(h:Dr b p)(n:Int):∃v p',spec_l1Rd_below.f b p n=some (v,p')∧0≤v∧(1≤n→v<n)∧Dr b p':=by
 unfold spec_l1Rd_below.f;by_cases h1:n≤1
 ·rw[iP h1]
  exact⟨0,p,rfl,by omega,by omega,h⟩
 rw[iN h1];obtain⟨v,q,e,hv0,hv1,hq⟩:=next_ok h;by_cases h2:n≤256
 ·rw[iP h2,e]
  simp only[Option.bind_some];rw[iN (by omega)];have:=tmod_ok hv0 (show 0<n by omega);exact⟨_,_,rfl,this.1,fun _=>this.2,hq⟩
 ·rw[iN h2,e]
  simp only[Option.bind_some];obtain⟨v2,q2,e2,hw0,hw1,hq2⟩:=next_ok hq;rw[e2];simp only[Option.bind_some];rw[iN (by omega),wrap_id (x:=v*256) (by omega) (by omega),wrap_id (x:=v*256+v2) (by omega) (by omega)];have:=tmod_ok (show 0≤v*256+v2 by omega) (show 0<n by omega);exact⟨_,_,rfl,this.1,fun _=>this.2,hq2⟩
theorem once_ok{b:List Int}{p:Int}(h:Dr b p)(n:Int):∃v p',spec_l1Rd_once.f b p n=some (v,p')∧Dr b p':=by
 unfold spec_l1Rd_once.f;obtain⟨v,q,e,_,_,hq⟩:=below_ok h n;rw[e];exact⟨_,_,rfl,hq⟩
theorem word_ok{b:List Int}:∀(n:Nat) (i:Int) (x p:Int),Dr b p→0≤i→8-i=n→∃v p',Ev (fun k=>spec_l1Rd_word.l0 k x i b p) (v,p')∧Dr b p':=by
 intro n
 induction n with
 | zero=>
   intro i x p h h0 hi;refine⟨x,p,?_,h⟩;rw[ev_succ];simp only[spec_l1Rd_word.l0,ev_ite,ev_some];rw[iN (by omega)];trivial
 | succ n ih=>
   intro i x p h h0 hi;obtain⟨v,q,e,_,_,hq⟩:=next_ok h;obtain⟨r,q2,e2,hq2⟩:=ih (i+1) (Go.bits .or .u64 (IntKind.u64.wrap (x*256)) (IntKind.u64.wrap v)) q hq (by omega) (by omega);refine⟨r,q2,?_,hq2⟩;rw[ev_succ];simp only[spec_l1Rd_word.l0,ev_ite,e,Option.bind_some];rw[iP (by omega),wrap_id (x:=i+1) (by omega) (by omega)];exact e2
def inAny(l:List S163)(b:Nat):Bool:=l.any fun x=>decide (x.f0≤(b:Int)∧(b:Int)≤x.f1)
theorem inAny_take(l:List S163)(k:Nat)(h:k<l.length)(b:Nat):inAny (l.take (k+1)) b=(inAny (l.take k) b||decide ((rd_T163 l (k:Int)).f0≤(b:Int)∧(b:Int)≤(rd_T163 l (k:Int)).f1)):=by
 have e:rd_T163 l (k:Int)=l[k]:=by simp[rd_T163,h]
 unfold inAny;rw[List.take_succ_eq_append_getElem h,List.any_append,e];simp
def addRun(xs:List S163)(b:Int):List S163:=if 0<xs.length then(if(rd_T163 xs ((xs.length:Int)-1)).f1=b-1 then xs.set ((xs.length:Int)-1).toNat ⟨(rd_T163 xs ((xs.length:Int)-1)).f0,b⟩else xs++ [⟨b,b⟩])else xs++ [⟨b,b⟩]
def classTo(p:Nat→Bool):Nat→List S163
 |0=>[]
 |n+1=>if p n=true then addRun (classTo p n) (n:Int)else classTo p n
theorem addRun_length(xs:List S163)(b:Int):(addRun xs b).length≤xs.length+1:=by
 unfold addRun;split
 ·split<;>simp
 ·simp
theorem classTo_length(p:Nat→Bool):∀n,(classTo p n).length≤n
 |0=>Nat.le_refl _
 | n+1=>by
   have:=classTo_length p n;unfold classTo;split
   ·have:=addRun_length (classTo p n) (n:Int);omega
   ·omega
theorem spansR_bounds:∀(l:List S163) (last:Int),spansR last l=true→∀x∈l,0≤x.f0∧x.f1≤255
 | [],_,_=>fun x hx=>by simp at hx
 | s :: rest,last,h=>fun x hx=>by
   simp only[spansR,Bool.and_eq_true,decide_eq_true_eq]at h;rcases List.mem_cons.1 hx with rfl|hx
   ·exact⟨h.1.1.1.1,h.1.1.2⟩
   ·exact spansR_bounds rest s.f1 h.2 x hx
theorem class_bounds(l:List S163)(h:classB l=true):∀x∈l,0≤x.f0∧x.f1≤255:=spansR_bounds l (-2) h
def endR:Int→List S163→Int
 |last,[]=>last
 | _,s :: rest=>endR s.f1 rest
theorem spansR_snoc(y:S163):∀(l:List S163) (last:Int),spansR last (l++ [y])=(spansR last l&&spansR (endR last l) [y])
 | [],last=>rfl
 | s :: l,last=>by
   have h:=spansR_snoc y l s.f1;show(_&&spansR s.f1 (l++ [y]))=((_&&spansR s.f1 l)&&spansR (endR s.f1 l) [y])
   rw[h,←Bool.and_assoc]
theorem endR_snoc(y:S163):∀(l:List S163) (last:Int),endR last (l++ [y])=y.f1
 | [],_=>rfl
 |s :: l,_=>by simp only[List.cons_append,endR,endR_snoc y l s.f1]
theorem inAny_snoc(y:S163)(l:List S163)(i:Nat):inAny (l++ [y]) i=(inAny l i||decide (y.f0≤(i:Int)∧(i:Int)≤y.f1)):=by
 simp[inAny]
theorem rd_snoc(y:S163)(l:List S163)(J:Int)(h:J=(l.length:Int)):rd_T163 (l++ [y]) J=y:=by
 subst h;simp[rd_T163]
theorem set_snoc(y z:S163)(l:List S163)(J:Int)(h:J=(l.length:Int)):(l++ [y]).set J.toNat z=l++ [z]:=by
 subst h;simp
theorem addRun_right(xs:List S163)(b:Nat)(hb:b≤255)(h:spansR (-2) xs=true)(he:endR (-2) xs<(b:Int))(hq: -2≤endR (-2) xs):
    spansR (-2) (addRun xs (b:Int))=true∧endR (-2) (addRun xs (b:Int))=(b:Int)∧∀i:Nat,inAny (addRun xs (b:Int)) i=(inAny xs i||decide (i=b)):=by
  rcases List.eq_nil_or_concat xs with h0| ⟨l,y,h0⟩
  ·subst h0
   refine⟨?_,?_,?_⟩
   ·simp[addRun,spansR];omega
   ·simp[addRun,endR]
   ·intro i
    simp only[addRun,inAny,List.length_nil,List.any_nil,Bool.false_or,List.nil_append,List.any_cons,Bool.or_false];rw[iN (by omega)];simp only[List.any_cons,List.any_nil,Bool.or_false];exact decide_eq_decide.2 (by omega)
  · rw [List.concat_eq_append]at h0
    subst h0;rw[endR_snoc]at he hq;have hs:=h;rw[spansR_snoc]at hs;simp only[spansR,Bool.and_eq_true,decide_eq_true_eq,and_true]at hs;obtain⟨hl,⟨⟨hy0,hy1⟩,hy2⟩,hy3⟩:=hs;unfold addRun;rw[iP (by simp),rd_snoc y l _ (by simp),set_snoc y _ l _ (by simp)];by_cases hj:y.f1=(b:Int)-1
    · rw[iP hj]
      refine⟨?_,endR_snoc _ _ _,?_⟩
      · rw[spansR_snoc,hl]
        simp only[spansR,Bool.true_and,Bool.and_eq_true,decide_eq_true_eq,and_true];omega
      · intro i
        rw[inAny_snoc,inAny_snoc,Bool.or_assoc];congr 1;rw[←Bool.decide_or];refine decide_eq_decide.2 ?_;dsimp only;omega
    · rw[iN hj]
      refine⟨?_,endR_snoc _ _ _,?_⟩
      · rw[spansR_snoc,h,endR_snoc]
        simp only[spansR,Bool.true_and,Bool.and_eq_true,decide_eq_true_eq,and_true];omega
      · intro i
        rw[inAny_snoc];congr 1;refine decide_eq_decide.2 ?_;dsimp only;omega
theorem classTo_right(p:Nat→Bool):∀n:Nat,n≤256→spansR (-2) (classTo p n)=true∧(-2≤endR (-2) (classTo p n)∧endR (-2) (classTo p n)<(n:Int))∧∀i:Nat,inAny (classTo p n) i=(decide (i<n)&&p i)
 |0,_=>⟨rfl,by simp[classTo,endR],fun i=>by simp[classTo,inAny]⟩
 | n + 1,hn=>by
   obtain⟨h1,⟨h2,h2'⟩,h3⟩:=classTo_right p n (by omega);unfold classTo;cases hp:p n
   · rw[iN (by simp)]
     refine⟨h1,⟨h2,by omega⟩,fun i=>?_⟩;rw[h3];by_cases hi:i=n
     ·subst hi;simp[hp]
     ·rw[decide_eq_decide.2 (show(i<n)↔(i<n+1) by omega)]
   · rw[iP rfl]
     obtain⟨g1,g2,g3⟩:=addRun_right (classTo p n) n (by omega) h1 h2' h2;refine⟨g1,⟨by omega,by omega⟩,fun i=>?_⟩;rw[g3,h3];by_cases hi:i=n
     ·subst hi;simp[hp]
     ·rw[decide_eq_decide.2 (show(i<n)↔(i<n+1) by omega),decide_eq_false hi,Bool.or_false]
theorem classB_to(p:Nat→Bool)(n:Nat)(hn:n=256):classB (classTo p n)=true:=(classTo_right p n (by omega)).1
def flagsL(p:Nat→Bool):List Bool:=(List.range 256).map p
theorem flagsL_length(p:Nat→Bool):(flagsL p).length=256:=by simp[flagsL]
theorem flagsL_rd(p:Nat→Bool)(i:Nat)(h:i<256):rdOf false (flagsL p) (i:Int)=p i:=by
 simp[rdOf,flagsL,h]
theorem flagsL_set(p:Nat→Bool)(i:Nat)(b:Bool):(flagsL p).set i b=flagsL fun j=>if j=i then b else p j:=by
 apply List.ext_getElem
 ·simp[flagsL]
 ·intro n h1 h2
  simp only[flagsL,List.getElem_set,List.getElem_map,List.getElem_range];by_cases h:i=n
  ·rw[iP h,iP h.symm]
  ·rw[iN h,iN (Ne.symm h)]
theorem flagsL_congr(p q:Nat→Bool)(h:∀i,p i=q i):flagsL p=flagsL q:=by rw[funext h]
theorem spec_l1Marks_l1(l:List S163)(i:Nat)(hi:i<l.length)(hf1:(rd_T163 l (i:Int)).f1≤255)(hl:l.length≤9223372036854775807)
   (ih:∀p:Nat→Bool,Ev (fun k=>spec_l1Marks.l0 k l (flagsL p) ((i+1:Nat):Int)) (flagsL fun b=>p b||inAny (l.drop (i+1)) b)):
   ∀(n x:Nat) (p:Nat→Bool),((rd_T163 l (i:Int)).f1+1-(x:Int)).toNat=n→Ev (fun k=>spec_l1Marks.l1 k l (flagsL p) (i:Int) (x:Int)) (flagsL fun b=>(p b||decide ((x:Int)≤(b:Int)∧(b:Int)≤(rd_T163 l (i:Int)).f1))||inAny (l.drop (i+1)) b):=by
 intro n
 induction n with
 | zero=>
   intro x p hn;rw[ev_succ];simp only[spec_l1Marks.l1,ev_ite];rw[iP (by omega),iP (by omega),iN (by omega),wrap_succ hi hl];refine ev_congr (ih p) (flagsL_congr _ _ fun b=>?_);rw[decide_eq_false (by omega),Bool.or_false]
 | succ n ihn=>
   intro x p hn;rw[ev_succ];simp only[spec_l1Marks.l1,ev_ite];rw[iP (by omega),iP (by omega),iP (by omega),iP (by omega),flagsL_length,iP (by omega),Int.toNat_natCast,flagsL_set,wrap_succ (m:=256) (by omega) (by omega)];refine ev_congr (ihn (x+1) _ (by omega)) (flagsL_congr _ _ fun b=>?_);congr 1;by_cases hb:b=x
   ·subst hb
    rw[iP rfl,decide_eq_true (p:=(b:Int)≤b∧_) (by omega),Bool.true_or,Bool.or_true]
   ·rw[iN hb]
    congr 1;exact decide_eq_decide.2 (by omega)
theorem spec_l1Marks_ev(l:List S163)(hc:classB l=true):Ev (fun k=>spec_l1Marks.f k l) (flagsL (inAny l)):=by
  have hl:=classB_few hc;have hbd:=class_bounds l hc;have key:∀i:Nat,i≤l.length→∀p:Nat→Bool,Ev (fun k=>spec_l1Marks.l0 k l (flagsL p) (i:Int)) (flagsL fun b=>p b||inAny (l.drop i) b):=by
    refine down l.length _ ?_ ?_
    ·intro p
     rw[ev_succ];simp only[spec_l1Marks.l0,ev_ite];rw[iN (by omega)];exact ev_some.2 (flagsL_congr _ _ fun b=>by simp[inAny])
    · intro i hi ih p
      have hm:rd_T163 l (i:Int)∈l:=by
        unfold rd_T163;rw[Int.toNat_natCast,List.getD_eq_getElem?_getD,List.getElem?_eq_getElem hi];exact List.getElem_mem _
      have hb:=hbd _ hm;have hx:=spec_l1Marks_l1 l i hi hb.2 (by omega) ih _ (rd_T163 l (i:Int)).f0.toNat p rfl;rw[Int.toNat_of_nonneg hb.1]at hx;rw[ev_succ];simp only[spec_l1Marks.l0,ev_ite];rw[iP (by omega),iP (by omega)];refine ev_congr hx (flagsL_congr _ _ fun b=>?_);have hd:l.drop i=rd_T163 l (i:Int) :: l.drop (i+1):=drop_cons l _ i hi;rw[hd,Bool.or_assoc];rfl
  unfold spec_l1Marks.f;rw[ev_ite,iP (by omega)];have h0:=key 0 (by omega) (fun _=>false);rw[show(List.replicate 256 false)=flagsL (fun _=>false) by unfold flagsL;rw[List.map_const',List.length_range]];exact ev_congr h0 (flagsL_congr _ _ fun b=>by simp)
theorem spec_l1Class_ev(p:Nat→Bool)(N:Nat)(hN:N=256):Ev (fun k=>spec_l1Class.f k (flagsL p)) (classTo p N):=by
  have key :∀i:Nat,i≤N→Ev (fun k=>spec_l1Class.l0 k (flagsL p) (classTo p i) (i:Int)) (classTo p N):=by
    refine down N _ ?_ ?_
    ·rw[ev_succ]
     simp only[spec_l1Class.l0,ev_ite];rw[iN (by omega)];exact ev_some.2 rfl
    · intro i hi ih
      have hlen:=classTo_length p i;rw[ev_succ];simp only[spec_l1Class.l0,ev_ite];rw[flagsL_length,iP (by omega),iP (by omega),iP (by omega),flagsL_rd p i (by omega),wrap_succ (m:=256) (by omega) (by omega)];have hst:classTo p (i+1)=if p i=true then addRun (classTo p i) (i:Int)else classTo p i:=rfl
      rw[hst]at ih;generalize classTo p i=xs at *;cases hp:p i
      · rw[hp,iN (by simp)]at ih
        rw[iN (by simp)];exact ih
      · rw [hp,iP rfl]at ih
        rw[iP rfl];unfold addRun at ih;by_cases h0:0<xs.length
        · rw[iP h0]at ih
          rw[iP (by omega),wrap_id (x:=(xs.length:Int)-1) (by omega) (by omega),wrap_id (x:=(i:Int)-1) (by omega) (by omega),iP (by omega),iP (by omega)];by_cases h1:(rd_T163 xs ((xs.length:Int)-1)).f1=(i:Int)-1
          · rw[iP h1]at ih ⊢
            exact ih
          · rw[iN h1]at ih ⊢
            rw[iP (by omega)];exact ih
        ·rw[iN h0]at ih
         rw[iN (by omega),iP (by omega)];exact ih
  exact key 0 (by omega)
theorem or_nonneg(a b:Int):0≤Go.bits .or .u64 a b:=by
 unfold Go.bits;simp only[];rw[IntKind.wrap_u64];omega
theorem word_in{b:List Int}:∀(n:Nat) (i:Int) (x p:Int),Dr b p→0≤i→8-i=n→0≤x→∃v p',Ev (fun k=>spec_l1Rd_word.l0 k x i b p) (v,p')∧Dr b p'∧0≤v:=by
 intro n
 induction n with
 | zero=>
   intro i x p h h0 hi hx;refine⟨x,p,?_,h,hx⟩;rw[ev_succ];simp only[spec_l1Rd_word.l0,ev_ite,ev_some];rw[iN (by omega)];trivial
 | succ n ih=>
   intro i x p h h0 hi hx;obtain⟨v,q,e,_,_,hq⟩:=next_ok h;obtain⟨r,q2,e2,hq2⟩:=ih (i+1) (Go.bits .or .u64 (IntKind.u64.wrap (x*256)) (IntKind.u64.wrap v)) q hq (by omega) (by omega) (or_nonneg _ _);refine⟨r,q2,?_,hq2⟩;rw[ev_succ];simp only[spec_l1Rd_word.l0,ev_ite,e,Option.bind_some];rw[iP (by omega),wrap_id (x:=i+1) (by omega) (by omega)];exact e2
theorem near_in{b:List Int}{p:Int}(h:Dr b p)(lo hi:Int)(hl:0≤lo)(hh:hi≤1000000000)(hlh:lo≤hi):∃v p',Ev (fun k=>spec_l1Rd_near.f k b p lo hi) (v,p')∧Dr b p'∧lo≤v∧v≤hi:=by
 unfold spec_l1Rd_near.f;obtain⟨v,q,e,_,_,hq⟩:=below_ok h 8;rw[e];simp only[Option.bind_some,ev_ite];by_cases h0:v=0
 ·exact⟨_,_,by rw[iP h0];exact ev_some.2 rfl,hq,by omega,by omega⟩
 by_cases h1:v=1
 ·exact⟨_,_,by rw[iN h0,iP h1];exact ev_some.2 rfl,hq,by omega,by omega⟩
 obtain⟨x,q2,e2,hq2,hx0⟩:=word_in 8 0 0 q hq (by omega) (by omega) (by omega);have e3:Ev (fun k=>spec_l1Rd_word.f k b q) (x,q2):=e2;have hw:IntKind.u64.wrap (hi-lo+1)=hi-lo+1:=by
  rw[IntKind.wrap_u64];omega
 have hm:=tmod_ok (show 0≤x / 2 by omega) (show 0<hi-lo+1 by omega);refine⟨wrap64 (lo+wrap64 (Int.tmod (x / 2) (hi-lo+1))),q2,?_,hq2,?_⟩
 ·rw[iN h0,iN h1,iN (by omega),ev_bind e3,wrap_id (x:=hi-lo) (by omega) (by omega),wrap_id (x:=hi-lo+1) (by omega) (by omega),hw]
  simp only[ev_ite];rw[iN (by omega)];exact ev_some.2 rfl
 ·rw[wrap_id (x:=Int.tmod (x / 2) (hi-lo+1)) (by omega) (by omega),wrap_id (by omega) (by omega)]
  omega
theorem flags_of(l:List Bool)(h:l.length=256):∃p,l=flagsL p:=by
 refine⟨fun i=>l.getD i false,?_⟩;apply List.ext_getElem
 ·simp[flagsL,h]
 ·intro i h1 h2
  simp[flagsL,List.getD_eq_getElem?_getD,h1]
theorem l1Class_ok(l:List Bool)(h:l.length=256):∃s,Ev (fun k=>spec_l1Class.f k l) s∧classB s=true:=by
 obtain⟨p,rfl⟩:=flags_of l h;exact⟨_,spec_l1Class_ev p 256 rfl,classB_to p 256 rfl⟩
def ClsD(b:List Int)(g:Nat→Option (List S163 × Int)):Prop:=∃s q,Ev g (s,q)∧Dr b q∧classB s=true
theorem class_l1{b:List Int}{x4 x5:Int}(h5:0≤x5∧x5≤300)(hN:∀(m:List Bool) (p:Int),m.length=256→Dr b p→ClsD b (fun k=>spec_l1Rd_class.l0 k m (wrap64 (x4-1)) b p)):
   ∀(n:Nat) (x6:Int) (m:List Bool) (p:Int),(256-x6).toNat=n→0≤x6→x6≤400→m.length=256→Dr b p→ClsD b (fun k=>spec_l1Rd_class.l1 k m x4 x5 x6 b p):=by
 intro n
 induction n with
 | zero=>
   intro x6 m p hn h0 h4 hm hp;obtain⟨s,q,e,hq,hs⟩:=hN m p hm hp;refine⟨s,q,?_,hq,hs⟩;rw[ev_succ];simp only[spec_l1Rd_class.l1,ev_ite];rw[iN (by omega)];exact e
 | succ n ih=>
   intro x6 m p hn h0 h4 hm hp;obtain⟨v,q,e,v0,v1,hq⟩:=below_ok hp 6;have v1:=v1 (by omega);by_cases hc:x6≤x5+v
   ·obtain⟨s,q2,e2,hq2,hs⟩:=ih (x6+1) (m.set x6.toNat true) q (by omega) (by omega) (by omega) (by simp[hm]) hq
    refine⟨s,q2,?_,hq2,hs⟩;rw[ev_succ];simp only[spec_l1Rd_class.l1,ev_ite,e,Option.bind_some];rw[iP (by omega),wrap_id (x:=x5+v) (by omega) (by omega),iP hc,iP h0,iP (by omega),wrap_id (x:=x6+1) (by omega) (by omega)];exact e2
   ·obtain⟨s,q2,e2,hq2,hs⟩:=hN m q hm hq
    refine⟨s,q2,?_,hq2,hs⟩;rw[ev_succ];simp only[spec_l1Rd_class.l1,ev_ite,e,Option.bind_some];rw[iP (by omega),wrap_id (x:=x5+v) (by omega) (by omega),iN hc];exact e2
theorem class_l0{b:List Int}:∀(n:Nat) (m:List Bool) (p:Int),n≤10→m.length=256→Dr b p→ClsD b (fun k=>spec_l1Rd_class.l0 k m (n:Int) b p):=by
 intro n
 induction n with
 | zero=>
   intro m p _ hm hp;obtain⟨s,e,hs⟩:=l1Class_ok m hm;refine⟨s,p,?_,hp,hs⟩;rw[ev_succ];simp only[spec_l1Rd_class.l0,ev_ite];rw[iN (by omega),ev_bind e];exact ev_some.2 rfl
 | succ n ih=>
   intro m p h10 hm hp;have hw:wrap64 (((n+1:Nat):Int)-1)=(n:Int):=by rw[wrap_id (by omega) (by omega)];omega
   have hN:∀(m:List Bool) (p:Int),m.length=256→Dr b p→ClsD b (fun k=>spec_l1Rd_class.l0 k m (wrap64 (((n+1:Nat):Int)-1)) b p):=fun m p h1 h2=>by rw[hw];exact ih m p (by omega) h1 h2
   obtain⟨v,q,e,v0,v1,hq⟩:=below_ok hp 256;have v1:=v1 (by omega);obtain⟨o,q2,e2,hq2⟩:=once_ok hq 2;cases o
   ·obtain⟨s,q4,e4,hq4,hs⟩:=class_l1 (x4:=((n+1:Nat):Int)) (x5:=v) ⟨v0,by omega⟩ hN _ v m q2 rfl v0 (by omega) hm hq2
    refine⟨s,q4,?_,hq4,hs⟩;rw[ev_succ];simp only[spec_l1Rd_class.l0,ev_ite,e,e2,Option.bind_some];rw[iP (by omega),iN (by decide),ev_succ];simp only[spec_l1Rd_class.j1];exact e4
   ·obtain⟨u,q3,e3,u0,u1,hq3⟩:=below_ok hq2 8
    have u1:=u1 (by omega);have hu:wrap64 (97+u)=97+u:=wrap_id (by omega) (by omega);obtain⟨s,q4,e4,hq4,hs⟩:=class_l1 (x4:=((n+1:Nat):Int)) (x5:=97+u) ⟨by omega,by omega⟩ hN _ (97+u) m q3 rfl (by omega) (by omega) hm hq3;refine⟨s,q4,?_,hq4,hs⟩;rw[ev_succ];simp only[spec_l1Rd_class.l0,ev_ite,e,e2,e3,Option.bind_some,hu];rw[iP (by omega),iP (by trivial),ev_succ];simp only[spec_l1Rd_class.j1];exact e4
theorem class_ok{b:List Int}{p:Int}(hp:Dr b p):ClsD b (fun k=>spec_l1Rd_class.f k b p):=by
 obtain⟨v,q,e,v0,v1,hq⟩:=below_ok hp 5;have v1:=v1 (by omega);obtain⟨a,rfl⟩:=Int.eq_ofNat_of_zero_le v0;obtain⟨s,q2,e2,hq2,hs⟩:=class_l0 a (List.replicate 256 false) q (by omega) List.length_replicate hq;refine⟨s,q2,?_,hq2,hs⟩;unfold spec_l1Rd_class.f;simp only[ev_ite,e,Option.bind_some];rw[iP (by omega)];exact e2
theorem ClassOf_ok(x:ByteArray)(hx:x.size≤9223372036854775807):∃s,Ev (fun k=>spec_ClassOf.f k x) s∧classB s=true:=by
 have key:=down x.size (fun i=>∀m:List Bool,m.length=256→∃s,Ev (fun k=>spec_ClassOf.l0 k x m (i:Nat)) s∧classB s=true) ?_ ?_ 0 (by omega) (List.replicate 256 false) List.length_replicate
 ·obtain⟨s,e,hs⟩:=key
  refine⟨s,?_,hs⟩;unfold spec_ClassOf.f;simp only[ev_ite];rw[iP (by omega)];exact e
 ·intro m hm
  obtain⟨s,e,hs⟩:=l1Class_ok m hm;refine⟨s,?_,hs⟩;rw[ev_succ];simp only[spec_ClassOf.l0,ev_ite];rw[iN (by omega),ev_bind e];exact ev_some.2 rfl
 ·intro i hi ih m hm
  have hb:=bt_range x i;obtain⟨s,e,hs⟩:=ih (m.set (bt x i).toNat true) (by simp[hm]);refine⟨s,?_,hs⟩;rw[ev_succ];simp only[spec_ClassOf.l0,ev_ite];rw[iP (by omega),iP (by omega),iP hb.1,iP (by omega),wrap_succ hi hx];exact e
theorem Both2_l0:∀i:Nat,i≤256→∀m q:List Bool,m.length=256→q.length=256→∃s,Ev (fun k=>spec_l1Both.l0 k 2 m q (i:Int)) s∧classB s=true:=by
 refine down 256 _ ?_ ?_
 ·intro m q hm hq
  obtain⟨s,e,hs⟩:=l1Class_ok m hm;refine⟨s,?_,hs⟩;rw[ev_succ];simp only[spec_l1Both.l0,ev_ite];rw[iN (by omega),ev_bind e];exact ev_some.2 rfl
 ·intro i hi ih m q hm hq
  have hw:wrap64 ((i:Int)+1)=((i+1:Nat):Int):=wrap_succ (m:=256) hi (by omega);cases hr:rdOf false m (i:Int)
  ·obtain⟨s,e,hs⟩:=ih (m.set (i:Int).toNat false) q (by simp[hm]) hq
   refine⟨s,?_,hs⟩;rw[ev_succ];simp only[spec_l1Both.l0,ev_ite];rw[iP (by omega),iN (by decide),iN (by decide),iP trivial,iP (by omega),iP (by omega),hr,iN (by decide),hw];exact e
  ·obtain⟨s,e,hs⟩:=ih (m.set (i:Int).toNat (!(rdOf false q (i:Int)))) q (by simp[hm]) hq
   refine⟨s,?_,hs⟩;rw[ev_succ];simp only[spec_l1Both.l0,ev_ite];rw[iP (by omega),iN (by decide),iN (by decide),iP trivial,iP (by omega),iP (by omega),hr,iP rfl,iP (by omega),hw];exact e
theorem Others_ok(s:List S163):∃r,Ev (fun k=>spec_Others.f k s) r∧classB r=true:=by
 unfold spec_Others.f;cases hs:classB s
 ·refine⟨[],?_,rfl⟩
  rw[ev_bind (spec_ClassOk_ev s),hs];simp only[ev_ite];rw[iN (by decide)];exact ev_some.2 rfl
 ·have ha:classB [(⟨0,255⟩:S163)]=true:=by decide
  obtain⟨r,e,hr⟩:=Both2_l0 0 (by omega) (flagsL (inAny [(⟨0,255⟩:S163)])) (flagsL (inAny s)) (flagsL_length _) (flagsL_length _);refine⟨r,?_,hr⟩;have hB:Ev (fun k=>spec_l1Both.f k [(⟨0,255⟩:S163)] s 2) r:=by
   unfold spec_l1Both.f;rw[ev_bind (spec_ClassOk_ev _),ha];simp only[ev_ite];rw[iP (by trivial),ev_bind (spec_ClassOk_ev s),hs,ev_succ];simp only[spec_l1Both.j0,Bool.not_true,Bool.false_eq_true,if_false];rw[ev_bind (spec_l1Marks_ev _ ha),ev_bind (spec_l1Marks_ev _ hs)];exact e
  have hW:Ev (fun k=>spec_Without.f k [(⟨0,255⟩:S163)] s) r:=by
   unfold spec_Without.f;rw[ev_bind hB];exact ev_some.2 rfl
  rw[ev_bind (spec_ClassOk_ev s),hs];simp only[ev_ite];rw[iP (by trivial),ev_bind hW];exact ev_some.2 rfl
theorem opG_ok{b:List Int}{p:Int}(hp:Dr b p)(deep:Int):∃op q,Ev (fun k=>opG k b p deep) (op,q)∧Dr b q∧1≤op∧op≤8∧(deep=0→op≤2):=by
 obtain⟨v,q1,e1,hq1,v0,v1⟩:=near_in hp 3 8 (by omega) (by omega) (by omega);unfold opG;have h1:∀q,Dr b q→∃op q',Ev (fun k=>(spec_l1Rd_once.f b q 12).bind fun t3=>some (if t3.1=true then(1:Int)else 2,t3.2)) (op,q')∧Dr b q'∧1≤op∧op≤2:=by
  intro q hq;obtain⟨o,q2,e2,hq2⟩:=once_ok hq 12;cases o
  ·exact⟨2,q2,by rw[e2];exact ev_some.2 rfl,hq2,by omega,by omega⟩
  ·exact⟨1,q2,by rw[e2];exact ev_some.2 rfl,hq2,by omega,by omega⟩
 by_cases hd:deep=0
 ·obtain⟨op,q2,e2,hq2,o1,o2⟩:=h1 q1 hq1
  refine⟨op,q2,?_,hq2,o1,by omega,fun _=>o2⟩;rw[ev_bind e1];simp only[iP hd];exact e2
 ·obtain⟨o,q3,e3,hq3⟩:=once_ok hq1 3
  cases o
  ·refine⟨v,q3,?_,hq3,by omega,v1,fun h=>absurd h hd⟩
   rw[ev_bind e1];simp only[iN hd,e3,Option.bind_some,ev_ite];exact ev_some.2 rfl
  ·obtain⟨op,q2,e2,hq2,o1,o2⟩:=h1 q3 hq3
   refine⟨op,q2,?_,hq2,o1,by omega,fun _=>o2⟩;rw[ev_bind e1];simp only[iN hd,e3,Option.bind_some,if_true];exact e2
theorem ev_if{α:Type}{c:Prop}[Decidable c]{a b:Nat→Option α}{r:α}(h1:c→Ev a r)(h2:¬c→Ev b r):Ev (fun k=>if c then a k else b k) r:=by
 rw[ev_ite];split
 ·exact h1 ‹_›
 ·exact h2 ‹_›
theorem strsG_size(i:Nat):(strsG.getD i ⟨#[]⟩).size≤9223372036854775807:=by
 have h:∀x∈strsG,x.size≤9223372036854775807:=by
  intro x hx;simp only[strsG,List.mem_cons,List.not_mem_nil,or_false]at hx;rcases hx with rfl|rfl|rfl|rfl|rfl|rfl|rfl|rfl|rfl<;>decide
 rw[List.getD_eq_getElem?_getD];cases hi:strsG[i]? with
 |none=>decide
 |some x=>exact h x (List.mem_of_getElem? hi)
theorem setG_ok{b:List Int}{p:Int}(hp:Dr b p):∃s q,Ev (fun k=>setG k b p) (s,q)∧Dr b q:=by
 unfold setG;obtain⟨i,q1,e1,i0,i1,hq1⟩:=below_ok hp 9;have i1:=i1 (by omega);obtain⟨s0,es0,_⟩:=ClassOf_ok (strsG.getD i.toNat ⟨#[]⟩) (strsG_size _);obtain⟨o5,q2,e2,hq2⟩:=once_ok hq1 5;have h4:∃s4 q4,Ev (fun k=>if o5=true then(spec_l1Rd_class.f k b q2).bind fun t3=>some (if 0<t3.1.length then t3.1 else s0,t3.2)else some (s0,q2)) (s4,q4)∧Dr b q4:=by
  cases o5
  ·exact⟨s0,q2,ev_some.2 rfl,hq2⟩
  ·obtain⟨s,q3,e3,hq3,_⟩:=class_ok hq2
   exact⟨if 0<s.length then s else s0,q3,(ev_bind e3).2 (ev_some.2 rfl),hq3⟩
 obtain⟨s4,q4,e4,hq4⟩:=h4;obtain⟨o6,q5,e5,hq5⟩:=once_ok hq4 16;have h6:∃s6 q6,Ev (fun k=>if o6=true then(spec_Others.f k s4).bind fun s1=>some (s1,q5)else some (s4,q5)) (s6,q6)∧Dr b q6:=by
  cases o6
  ·exact⟨s4,q5,ev_some.2 rfl,hq5⟩
  ·obtain⟨s1,e1,_⟩:=Others_ok s4
   exact⟨s1,q5,(ev_bind e1).2 (ev_some.2 rfl),hq5⟩
 obtain⟨s6,q6,e6,hq6⟩:=h6;refine⟨s6,q6,?_,hq6⟩;simp only[e1,Option.bind_some];refine ev_if (fun _=>?_) (fun h=>absurd ⟨i0,i1⟩ h);rw[ev_bind es0];simp only[e2,Option.bind_some];rw[ev_bind e4];simp only[e5,Option.bind_some];exact e6
theorem minG_ok{b:List Int}{p:Int}(hp:Dr b p)(op:Int):∃r,minG b p op=some r∧Dr b r.2.2:=by
 unfold minG;by_cases h8:op=8
 ·rw[iP h8]
  obtain⟨v1,q1,e1,_,_,hq1⟩:=below_ok hp 3;obtain⟨v2,q2,e2,_,_,hq2⟩:=below_ok hq1 3;rw[e1];simp only[Option.bind_some,e2];by_cases h0:wrap64 (v1+v2)=0
  ·rw[iP h0]
   simp only[Option.bind_some];obtain⟨v4,q4,e4,hq4⟩:=once_ok hq2 16;rw[e4];exact⟨_,rfl,hq4⟩
  ·rw[iN h0]
   obtain⟨v3,q3,e3,hq3⟩:=once_ok hq2 4;rw[e3];simp only[Option.bind_some];obtain⟨v4,q4,e4,hq4⟩:=once_ok hq3 16;rw[e4];exact⟨_,rfl,hq4⟩
 ·rw[iN h8]
  exact⟨_,rfl,hp⟩
theorem kidsN_in(op:Int)(h:1≤op∧op≤8):0≤kidsN op∧kidsN op≤2∧(op≤2→kidsN op=0):=by
 unfold kidsN;refine⟨?_,?_,fun h2=>?_⟩<;>(repeat' split)<;>omega
def ndG:Nat→Nat
 |0=>1
 |d+1=>2*ndG d+1
def NsD(b:List Int)(n:Nat)(g:Nat→Option (List S196 × Int)):Prop:=∃r q,Ev g (r,q)∧Dr b q∧r.length≤n∧∀x∈r,x.f2.length≤2
theorem NsD.le{b:List Int}{n m:Nat}{g:Nat→Option (List S196 × Int)}(h:NsD b n g)(hm:n≤m):NsD b m g:=by
 obtain⟨r,q,h1,h2,h3,h4⟩:=h;exact⟨r,q,h1,h2,by omega,h4⟩
theorem kids_ok{b:List Int}{deep op:Int}(hop:1≤op∧op≤8)(hd:0≤deep∧deep≤100)(g:Nat)(hG:kidsN op=0∨∀(ns:List S196) (p:Int),Dr b p→(∀x∈ns,x.f2.length≤2)→ns.length+g≤1000→NsD b (ns.length+g) (fun k=>growF k b p ns (deep-1))):
    ∀(n:Nat) (q:Int) (kids:List Int) (ns:List S196) (p:Int),(kidsN op-q).toNat=n→0≤q→(kids.length:Int)=q→q≤kidsN op→Dr b p→(∀x∈ns,x.f2.length≤2)→ns.length+n*g+1≤1000→NsD b (ns.length+n*g+1) (fun k=>kidsF k b p ns kids deep op q):=by
  have hk:=kidsN_in op hop;intro n
  induction n with
  | zero=>
    intro q kids ns p hn h0 hkl hle hp hns hl;obtain⟨r,er,hr⟩:=minG_ok hp op;refine⟨ns++ [⟨op,[],kids,r.1,r.2.1⟩],r.2.2,?_,hr,by simp,?_⟩
    ·rw[ev_succ]
     simp only[kidsF];refine ev_if (fun _=>?_) (fun h=>absurd ⟨by omega,by omega⟩ h);rw[ev_bind (spec_l3Kids_ev op hop)];refine ev_if (fun h=>by omega) (fun _=>?_);simp only[er,Option.bind_some];exact ev_some.2 rfl
    · intro x hx
      rcases List.mem_append.1 hx with hx|hx
      ·exact hns x hx
      · rw[List.mem_singleton.1 hx]
        show kids.length≤2
        omega
  | succ n ih=>
    intro q kids ns p hn h0 hkl hle hp hns hl;have e1:(n+1)*g=n*g+g:=Nat.succ_mul n g;rcases hG with hG|hG
    ·omega
    obtain⟨r,q1,er,hq1,hr,hr2⟩:=hG ns p hp hns (by omega);obtain⟨r2,q2,er2,hq2,hr3,hr4⟩:=ih (q+1) (kids++ [wrap64 ((r.length:Int)-1)]) r q1 (by omega) (by omega) (by simp;omega) (by omega) hq1 hr2 (by omega);refine⟨r2,q2,?_,hq2,by omega,hr4⟩;rw[ev_succ];simp only[kidsF];refine ev_if (fun _=>?_) (fun h=>absurd ⟨by omega,by omega⟩ h);rw[ev_bind (spec_l3Kids_ev op hop)];refine ev_if (fun _=>?_) (fun h=>by omega);rw[wrap_id (x:=deep-1) (by omega) (by omega),wrap_id (x:=q+1) (by omega) (by omega),ev_bind er];exact er2
theorem grow_ok{b:List Int}:∀(d:Nat),d≤50→∀(ns:List S196) (p:Int),Dr b p→(∀x∈ns,x.f2.length≤2)→ns.length+ndG d≤1000→NsD b (ns.length+ndG d) (fun k=>growF k b p ns (d:Int)):=by
  intro d
  induction d with
  | zero =>
    intro _ ns p hp hns hl;have hl:ns.length+1≤1000:=hl;obtain⟨op,q,eo,hq,o1,o8,o2⟩:=opG_ok hp (((0:Nat):Int));have o2:=o2 rfl;have hk:=kids_ok (b:=b) (deep:=((0:Nat):Int)) (op:=op) ⟨o1,o8⟩ ⟨by omega,by omega⟩ 0 (.inl ((kidsN_in op ⟨o1,o8⟩).2.2 o2)) 0 0 [] ns q (by have:=(kidsN_in op ⟨o1,o8⟩).2.2 o2;omega) (by omega) rfl (by have:=(kidsN_in op ⟨o1,o8⟩).1;omega) hq hns (by omega);obtain⟨s,q2,es,hq2⟩:=setG_ok hq;have e0:∀ {r:List S196} {q':Int},Ev (fun k=>if op=2 then(setG k b q).bind fun t2=>some (ns++ [⟨2,t2.1,[],0,0⟩],t2.2)else kidsF k b q ns [] ((0:Nat):Int) op 0) (r,q')→Ev (fun k=>growF k b p ns ((0:Nat):Int)) (r,q'):=by
     intro r q' h;rw[ev_succ];simp only[growF];refine ev_if (fun _=>?_) (fun h=>by omega);rw[ev_bind eo];exact h
    by_cases h2:op=2
    · refine⟨ns++ [⟨2,s,[],0,0⟩],q2,e0 (ev_if (fun _=>?_) (fun h=>absurd h2 h)),hq2,by simp[ndG],?_⟩
      · rw[ev_bind es]
        exact ev_some.2 rfl
      · intro x hx
        rcases List.mem_append.1 hx with hx|hx
        ·exact hns x hx
        · rw[List.mem_singleton.1 hx]
          exact Nat.zero_le _
    ·obtain⟨r,q3,er,h3,h4,h5⟩:=hk
     exact⟨r,q3,e0 (ev_if (fun h=>absurd h h2) (fun _=>er)),h3,by simpa[ndG]using h4,h5⟩
  | succ d ih=>
    intro hd ns p hp hns hl;have hnd:ndG (d+1)=2*ndG d+1:=rfl;obtain⟨op,q,eo,hq,o1,o8,_⟩:=opG_ok hp (((d+1:Nat):Int));have hkn:=kidsN_in op ⟨o1,o8⟩;have hw:((d+1:Nat):Int)-1=(d:Int):=by omega
    have hm:(kidsN op).toNat*ndG d≤2*ndG d:=Nat.mul_le_mul_right _ (by omega);have hk:=(kids_ok (b:=b) (deep:=((d+1:Nat):Int)) (op:=op) ⟨o1,o8⟩ ⟨by omega,by omega⟩ (ndG d) (.inr (fun ns p h1 h2 h3=>by rw[hw];exact ih (by omega) ns p h1 h2 h3)) (kidsN op).toNat 0 [] ns q (by omega) (by omega) rfl (by omega) hq hns (by omega)).le (m:=ns.length+ndG (d+1)) (by omega);obtain⟨s,q2,es,hq2⟩:=setG_ok hq;have e0:∀ {r:List S196} {q':Int},Ev (fun k=>if op=2 then(setG k b q).bind fun t2=>some (ns++ [⟨2,t2.1,[],0,0⟩],t2.2)else kidsF k b q ns [] ((d+1:Nat):Int) op 0) (r,q')→Ev (fun k=>growF k b p ns ((d+1:Nat):Int)) (r,q'):=by
     intro r q' h;rw[ev_succ];simp only[growF];refine ev_if (fun _=>?_) (fun h=>by omega);rw[ev_bind eo];exact h
    by_cases h2:op=2
    · refine⟨ns++ [⟨2,s,[],0,0⟩],q2,e0 (ev_if (fun _=>?_) (fun h=>absurd h2 h)),hq2,by simp;omega,?_⟩
      · rw[ev_bind es]
        exact ev_some.2 rfl
      · intro x hx
        rcases List.mem_append.1 hx with hx|hx
        ·exact hns x hx
        · rw[List.mem_singleton.1 hx]
          exact Nat.zero_le _
    ·obtain⟨r,q3,er,h3,h4,h5⟩:=hk
     exact⟨r,q3,e0 (ev_if (fun h=>absurd h h2) (fun _=>er)),h3,h4,h5⟩
theorem rx_ok{b:List Int}{p:Int}(hp:Dr b p)(deep:Int)(hd:0≤deep∧deep≤6):NsD b 127 (fun k=>spec_l1Rd_rx.f k b p deep):=by
 obtain⟨d,rfl⟩:=Int.eq_ofNat_of_zero_le hd.1;have hnd:ndG d≤127:=by
  have h:d=0∨d=1∨d=2∨d=3∨d=4∨d=5∨d=6:=by omega
  rcases h with rfl|rfl|rfl|rfl|rfl|rfl|rfl<;>decide
 obtain⟨r,q,er,hq,hr,hr2⟩:=grow_ok (b:=b) d (by omega) [] p hp (fun x hx=>by cases hx) (by simp;omega);have hr:r.length≤127:=by simp at hr;omega
 obtain⟨s,es,_⟩:=ClassOf_ok ⟨#[97]⟩ (by decide);unfold spec_l1Rd_rx.f rxF;cases hb:rxB r
 ·refine⟨[⟨2,s,[],0,0⟩],q,?_,hq,by simp,?_⟩
  ·rw[ev_bind er,ev_bind (spec_RxOk_ev r (by omega) (fun x hx=>by have:=hr2 x hx;omega)),hb]
   simp only[Bool.false_eq_true,if_false];rw[ev_bind es];exact ev_some.2 rfl
  ·intro x hx
   rw[List.mem_singleton.1 hx];exact Nat.zero_le _
 ·refine⟨r,q,?_,hq,hr,hr2⟩
  rw[ev_bind er,ev_bind (spec_RxOk_ev r (by omega) (fun x hx=>by have:=hr2 x hx;omega)),hb];simp only[if_true];exact ev_some.2 rfl
def RxsD(b:List Int)(g:Nat→Option (List S67 × Int)):Prop:=∃r q,Ev g (r,q)∧Dr b q∧∀x∈r,x.f0.length≤127∧∀y∈x.f0,y.f2.length≤2
theorem rxs_ok{b:List Int}{p:Int}(hp:Dr b p):RxsD b (fun k=>spec_l1Rd_rxs.f k b p):=by
  have hl:b.length≤1048576:=hp.2.2.2;have key:∀(n:Nat) (xs:List S67) (p:Int),n≤100→xs.length+n≤1000→Dr b p→(∀x∈xs,x.f0.length≤127∧∀y∈x.f0,y.f2.length≤2)→RxsD b (fun k=>spec_l1Rd_rxs.l0 k xs (n:Int) b p):=by
    intro n
    induction n with
    | zero=>
      intro xs p _ _ hp hx;refine⟨xs,p,?_,hp,hx⟩;rw[ev_succ];simp only[spec_l1Rd_rxs.l0,ev_ite];rw[iN (by omega)];exact ev_some.2 rfl
    | succ n ih=>
      intro xs p h1 h2 hp hx;obtain⟨v,q,e,v0,v1,hq⟩:=below_ok hp 3;have v1:=v1 (by omega);obtain⟨r,q2,er,hq2,hr1,hr2⟩:=rx_ok hq (1+v) ⟨by omega,by omega⟩;obtain⟨ys,q3,e3,hq3,hy⟩:=ih (xs++ [⟨r⟩]) q2 (by omega) (by simp;omega) hq2 (fun x hx2=>by
        rcases List.mem_append.1 hx2 with hx2|hx2
        ·exact hx x hx2
        ·rw[List.mem_singleton.1 hx2]
         exact⟨hr1,hr2⟩)
      refine⟨ys,q3,?_,hq3,hy⟩;rw[ev_succ];simp only[spec_l1Rd_rxs.l0,ev_ite,e,Option.bind_some];rw[iP (by omega),wrap_id (x:=1+v) (by omega) (by omega),ev_bind er];simp only[ev_ite];rw[iP (by omega),wrap_id (x:=((n+1:Nat):Int)-1) (by omega) (by omega),show((n+1:Nat):Int)-1=(n:Int) by omega];exact e3
  unfold spec_l1Rd_rxs.f;obtain⟨v,q,e,v0,v1,hq⟩:=below_ok hp (mn 4 (wrap64 (1+wrap64 ((b.length:Int) / 8))));have h4:mn 4 (wrap64 (1+wrap64 ((b.length:Int) / 8)))≤4∧1≤mn 4 (wrap64 (1+wrap64 ((b.length:Int) / 8))):=by
   rw[wrap_id (x:=(b.length:Int) / 8) (by omega) (by omega),wrap_id (by omega) (by omega)];unfold mn;split<;>omega
  have v1:=v1 h4.2;obtain⟨r,q2,e2,hr⟩:=key (1+v).toNat [] q (by omega) (by simp;omega) hq (fun x hx=>by cases hx);refine⟨r,q2,?_,hr⟩;simp only[e,Option.bind_some];rw[wrap_id (x:=1+v) (by omega) (by omega),show(1+v)=(((1+v).toNat:Nat):Int) by omega];exact e2
def InR(s:NB):Prop:=1≤s.1∧∀e∈s.2,(0≤e.f0∧e.f0<s.1)∧(0≤e.f1∧e.f1<s.1)∧classB e.f2=true
def In2(n a b:Int):Prop:=(0≤a∧a<n)∧(0≤b∧b<n)
theorem InR.grow{s:NB}(h:InR s){n:Int}(hn:s.1≤n):InR (n,s.2):=⟨by have:=h.1;show 1≤n;omega,fun e he=>by obtain⟨h1,h2,h3⟩:=h.2 e he;exact⟨⟨h1.1,by show _<n;omega⟩,⟨h2.1,by show _<n;omega⟩,h3⟩⟩
theorem InR.edge{s:NB}(h:InR s){a b:Int}(hab:In2 s.1 a b){c:List S163}(hc:classB c=true):InR (edgeN s a b c):=⟨h.1,fun e he=>by
 rcases List.mem_append.1 he with he|he
 ·exact h.2 e he
 ·obtain rfl:=List.mem_singleton.1 he
  exact⟨hab.1,hab.2,hc⟩⟩
theorem class_nil:classB ([]:List S163)=true:=rfl
def PIn(s:NB)(r:NR):Prop:=InR r.2.2∧s.1≤r.2.2.1∧In2 r.2.2.1 r.1 r.2.1
def InP(P:NB→NR):Prop:=∀s:NB,InR s→PIn s (P s)
theorem loop_in{op a z:Int}{s:NB}(h:InR s)(hz:In2 s.1 a z):PIn s (loopN op a z s):=by
 have h2:=h.grow (show s.1≤s.1+2 by omega);have h0:=h.1;obtain⟨⟨a0,a1⟩,z0,z1⟩:=hz;have e1:InR (edgeN (s.1+2,s.2) s.1 a []):=h2.edge ⟨⟨by omega,by show _<s.1+2;omega⟩,a0,by show _<s.1+2;omega⟩ class_nil;have e2:InR (if op=6 then edgeN (s.1+2,s.2) s.1 a []else edgeN (edgeN (s.1+2,s.2) s.1 a []) s.1 (s.1+1) []):=by
  split
  ·exact e1
  ·exact e1.edge ⟨⟨by omega,by show _<s.1+2;omega⟩,by omega,by show _<s.1+2;omega⟩ class_nil
 have n2:(if op=6 then edgeN (s.1+2,s.2) s.1 a []else edgeN (edgeN (s.1+2,s.2) s.1 a []) s.1 (s.1+1) []).1=s.1+2:=by split<;>rfl
 unfold loopN;generalize(if op=6 then edgeN (s.1+2,s.2) s.1 a []else edgeN (edgeN (s.1+2,s.2) s.1 a []) s.1 (s.1+1) [])=E at *;have e3:InR (if op=7 then E else edgeN E z a []):=by
  split
  ·exact e2
  ·exact e2.edge ⟨⟨by omega,by omega⟩,by omega,by omega⟩ class_nil
 have n3:(if op=7 then E else edgeN E z a []).1=s.1+2:=by split<;>exact n2
 generalize(if op=7 then E else edgeN E z a [])=F at *;exact⟨e3.edge ⟨⟨by omega,by omega⟩,by omega,by omega⟩ class_nil,by show _≤F.1;omega,⟨by show 0≤s.1;omega,by show s.1<F.1;omega⟩,by show 0≤s.1+1;omega,by show s.1+1<F.1;omega⟩
def JIn(r:NR):Prop:=InR r.2.2∧((r.1<0∧r.2.1<0)∨In2 r.2.2.1 r.1 r.2.1)
theorem join_in{r q:NR}(h:JIn r)(hq:PIn r.2.2 q):PIn r.2.2 (joinN r.1 r.2.1 q):=by
 unfold joinN;obtain⟨h1,h2⟩:=h;obtain⟨q1,q2,q3⟩:=hq;split
 ·exact⟨q1,q2,q3⟩
 ·rcases h2 with h2| ⟨h2,h3⟩
  ·omega
  ·exact⟨q1.edge ⟨⟨h3.1,by omega⟩,q3.1⟩ class_nil,q2,⟨h2.1,by show _<q.2.2.1;omega⟩,q3.2⟩
theorem timesL_in{P:NB→NR}(hP:InP P)(mn op:Int):∀(m:Nat) (i:Int) (r:NR),JIn r→JIn (timesL P mn op m i r)∧r.2.2.1≤(timesL P mn op m i r).2.2.1
  |0,_,r,h=>⟨h,Int.le_refl _⟩
  | m + 1,i,r,h=>by
    cases hf:fullN r.2.2
    · simp only[timesL,hf,Bool.false_eq_true,if_false]
      have hq:=hP r.2.2 h.1;have hq2:PIn r.2.2 (if i≥mn then loopN op (P r.2.2).1 (P r.2.2).2.1 (P r.2.2).2.2 else P r.2.2):=by
        split
        · obtain⟨l1,l2,l3⟩:=loop_in (op:=op) hq.1 hq.2.2
          exact⟨l1,by have:=hq.2.1;omega,l3⟩
        ·exact hq
      have hj:=join_in h hq2;obtain⟨t1,t2⟩:=timesL_in hP mn op m (i+1) _ ⟨hj.1, .inr hj.2.2⟩;exact⟨t1,by have:=hj.2.1;omega⟩
    · simp only[timesL,hf,if_true]
      exact⟨h,Int.le_refl _⟩
theorem timesS_in{P:NB→NR}(hP:InP P)(mn mx:Int):InP (timesS P mn mx):=by
 intro s hs;obtain⟨⟨h1,h2⟩,h3⟩:=timesL_in hP mn (loopOp mx) (manyS mn mx).toNat 0 (-1, -1,s) ⟨hs, .inl ⟨by show(-1:Int)<0;omega,by show(-1:Int)<0;omega⟩⟩;unfold timesS;generalize timesL P mn (loopOp mx) (manyS mn mx).toNat 0 (-1, -1,s)=r at *;have hn:=h1.1;refine⟨h1,h3,?_⟩;unfold In2;dsimp only;rcases h2 with h2| ⟨h2,h4⟩<;>omega
theorem partS_in{l:List S196}(hcl:∀i:Int,(rd_T196 l i).f0=1∨(rd_T196 l i).f0=2→classB (rd_T196 l i).f1=true):∀(k:Nat) (i:Int),InP (partN timesS l k i)
 |0,i,s,hs=>⟨hs,Int.le_refl _,⟨Int.le_refl _,by have:=hs.1;show 0<s.1;omega⟩,Int.le_refl _,by have:=hs.1;show 0<s.1;omega⟩
 | k + 1,i,s,hs=>by
   have ih:=partS_in hcl k;have hn:=hs.1;cases hf:fullN s;rotate_left
   · rw[full_part _ _ _ _ hf]
     exact⟨hs,Int.le_refl _,⟨Int.le_refl _,by show 0<s.1;omega⟩,Int.le_refl _,by show 0<s.1;omega⟩
   have q:=ih (rd (rd_T196 l i).f2 0) s hs;have u:=ih (rd (rd_T196 l i).f2 1) _ q.1;simp only[partN,hf,Bool.false_eq_true,if_false];split
   ·exact⟨(hs.grow (show s.1≤s.1+2 by omega)).edge ⟨⟨by omega,by show _<s.1+2;omega⟩,by omega,by show _<s.1+2;omega⟩ (hcl i (by assumption)),by show s.1≤s.1+2;omega,⟨by show 0≤s.1;omega,by show s.1<s.1+2;omega⟩,by show 0≤s.1+1;omega,by show s.1+1<s.1+2;omega⟩
   split
   · obtain⟨q1,q2,q3,q4⟩:=q
     obtain⟨u1,u2,u3,u4⟩:=u;exact⟨u1.edge ⟨⟨q4.1,by omega⟩,u3⟩ class_nil,by show s.1≤_;simp only[catN,edgeN];omega,⟨q3.1,by simp only[catN,edgeN];omega⟩,u4⟩
   split
   · generalize partN timesS l k (rd (rd_T196 l i).f2 0) s=Q at *
     generalize partN timesS l k (rd (rd_T196 l i).f2 1) Q.2.2=U at *;obtain⟨q1,q2,q3,q4⟩:=q;obtain⟨u1,u2,u3,u4⟩:=u;have b:=u1.grow (show U.2.2.1≤U.2.2.1+2 by omega);have hu:=u1.1;refine⟨(((b.edge ?_ class_nil).edge ?_ class_nil).edge ?_ class_nil).edge ?_ class_nil,?_,⟨?_,?_⟩,?_,?_⟩<;>simp only[In2,altN,edgeN]<;>omega
   split
   ·exact timesS_in (ih _) _ _ s hs
   · obtain⟨l1,l2,l3⟩:=loop_in (op:=(rd_T196 l i).f0) q.1 q.2.2
     exact⟨l1,by have:=q.2.1;omega,l3⟩
theorem nodes_class{l:List S196}(h:∀j,j<l.length→nodeAt l j=true)(i:Int)(ho:(rd_T196 l i).f0=1∨(rd_T196 l i).f0=2):classB (rd_T196 l i).f1=true:=by
 by_cases hi:i.toNat<l.length
 ·have hn:=h i.toNat hi
  have e:rd_T196 l ((i.toNat:Nat):Int)=rd_T196 l i:=rfl;unfold nodeAt at hn;rw[e]at hn;generalize rd_T196 l i=x at *;unfold nodeB at hn;simp only[Bool.and_eq_true]at hn;have h2:=hn.1.2;rcases ho with ho|ho
  ·rw[iN (by omega)]at h2
   have h3:=ot_ h2;rw[List.length_eq_zero_iff.1 h3];rfl
  ·rw[iP ho]at h2
   exact(Bool.and_eq_true_iff.1 h2).1
 ·have e:rd_T196 l i=z196:=by
    unfold rd_T196;rw[List.getD_eq_getElem?_getD,List.getElem?_eq_none (by omega)];rfl
  rw[e]at ho;rcases ho with ho|ho<;>exact absurd ho (by decide)
def InE(q:NE):Prop:=InR q.1∧∀(j:Nat) (e:S138),q.2[j]? =some e→e.f1=(j:Int)∧0≤e.f0∧e.f0<q.1.1
theorem upS_in(l:List S67)(hx:∀x∈l,rxN x):∀k,k≤l.length→InE (upN timesS l k)
  |0,_=>⟨⟨by show(1:Int)≤1;omega,fun e he=>by cases he⟩,fun j e he=>by simp[upN]at he⟩
  | k + 1,h=>by
    obtain⟨h1,h2⟩:=upS_in l hx k (by omega);have hm:rd_T67 l (k:Int)∈l:=by
      unfold rd_T67;rw[List.getD_eq_getElem?_getD,List.getElem?_eq_getElem (show(k:Int).toNat<l.length by omega)];exact List.getElem_mem _
    have hp:=partS_in (nodes_class (hx _ hm).2.2) (rd_T67 l (k:Int)).f0.length (((rd_T67 l (k:Int)).f0.length:Int)-1) _ h1;have he:=upN_ends timesS l k;show InE (addN timesS _ _ _)
    unfold addN;generalize hX:xN timesS (rd_T67 l (k:Int)) (upN timesS l k).1=X at *;have hp:PIn (upN timesS l k).1 X:=by rw[←hX];exact hp
    generalize upN timesS l k=q at *;obtain⟨p1,p2,p3,p4⟩:=hp;refine⟨p1.edge ⟨⟨Int.le_refl _,by have:=p1.1;omega⟩,p3⟩ class_nil,fun j e hj=>?_⟩;show _∧_∧e.f0<X.2.2.1
    rw[List.getElem?_append]at hj;split at hj
    · obtain⟨a1,a2,a3⟩:=h2 j e hj
      exact⟨a1,a2,by omega⟩
    · rename_i hlt
      have:j-q.2.length=0:=by
        by_cases h0:j-q.2.length=0
        ·exact h0
        · rw[List.getElem?_eq_none (by simp;omega)]at hj
          cases hj
      rw[this]at hj;obtain rfl:=Option.some.inj hj;exact⟨by show(k:Int)=j;omega,p4.1,p4.2⟩
theorem full_add(tm:TM)(x:S67)(i:Int){q:NE}(h:fullN q.1=true):fullN (addN tm x i q).1=true:=by
 unfold addN xN;rw[full_part _ _ _ _ h];exact full_edge h _ _ _
theorem up_ag(l:List S67)(hx:∀x∈l,rxN x):∀k,k≤l.length→upN timesI l k=upN timesS l k∨(fullN (upN timesI l k).1=true∧fullN (upN timesS l k).1=true)
  |0,_=> .inl rfl
  | k + 1,h=>by
    have hm:rd_T67 l (k:Int)∈l:=by
      unfold rd_T67;rw[List.getD_eq_getElem?_getD,List.getElem?_eq_getElem (show(k:Int).toNat<l.length by omega)];exact List.getElem_mem _
    have hb:=(upNS_bn l hx k (by omega)).1;obtain⟨x1,x2,x3⟩:=hx _ hm;show addN timesI _ _ _=addN timesS _ _ _∨(fullN (addN timesI _ _ _).1=true∧fullN (addN timesS _ _ _).1=true)
    rcases up_ag l hx k (by omega)with h1| ⟨h1,h2⟩
    · rw[h1]
      generalize upN timesS l k=q at *;generalize rd_T67 l (k:Int)=x at *;have ha:=part_ag x.f0 x3 x.f0.length (x.f0.length-1) q.1 (by omega) hb;rw[show((x.f0.length-1:Nat):Int)=(x.f0.length:Int)-1 by omega]at ha;unfold addN xN;rcases ha with ha| ⟨a1,a2⟩
      · rw[ha]
        exact .inl rfl
      ·exact .inr ⟨full_edge a1 _ _ _,full_edge a2 _ _ _⟩
    ·exact .inr ⟨full_add _ _ _ h1,full_add _ _ _ h2⟩
theorem spec_NfaOk_ev(n:Int)(es:List S116)(en:List S138)(hI:InE ((n,es),en))(hn:n≤1000000)(hel:es.length≤1000000)(hen:en.length≤40):Ev (fun k=>spec_NfaOk.f k n es en) (!fullB n es):=by
 obtain⟨⟨h1,h2⟩,h3⟩:=hI;dsimp only at h1 h2 h3;have hw:wrap64 (n-1)=n-1:=wrap_id (by omega) (by omega);have hj:Ev (fun k=>spec_NfaOk.j0 k true n es en) false:=by
  rw[ev_succ];simp only[spec_NfaOk.j0,if_true];exact ev_some.2 rfl
 have hl1:Ev (fun k=>spec_NfaOk.l1 k 0 n es en) true:=by
  refine ev_loop en.length (fun k i=>spec_NfaOk.l1 k (i:Nat) n es en) (fun _=>true) ?_ ?_ 0 (by omega)
  ·rw[ev_succ]
   simp[spec_NfaOk.l1,ev_some]
  ·intro i hi ih
   rw[ev_succ];obtain⟨a1,a2,a3⟩:=h3 i en[i] (List.getElem?_eq_getElem hi);have hr:rd_T138 en (i:Int)=en[i]:=by simp[rd_T138,hi]
   simp only[spec_NfaOk.l1,spec_l1In_eq,Option.bind_some,ev_ite,hr,hw];rw[iP (by omega),iP (by omega),iP a1,decide_eq_true (by omega),iP rfl,wrap_succ hi (by omega)];exact ih
 have hl0:Ev (fun k=>spec_NfaOk.l0 k 0 n es en) true:=by
  refine ev_loop es.length (fun k i=>spec_NfaOk.l0 k (i:Nat) n es en) (fun _=>true) ?_ ?_ 0 (by omega)
  ·rw[ev_succ]
   simp only[spec_NfaOk.l0,ev_ite];rw[iN (by omega)];exact hl1
  ·intro i hi ih
   rw[ev_succ];obtain⟨a1,a2,a3⟩:=h2 es[i] (List.getElem_mem _);have hr:rd_T116 es (i:Int)=es[i]:=by simp[rd_T116,hi]
   simp only[spec_NfaOk.l0,spec_l1In_eq,Option.bind_some,ev_ite,hr,hw];rw[iP (by omega),iP (by omega),decide_eq_true (by omega),iP rfl,decide_eq_true (by omega),iP rfl,ev_bind (spec_ClassOk_ev es[i].f2),a3];simp only[ev_ite,if_true];rw[wrap_succ hi (by omega)];exact ih
 have hj0:Ev (fun k=>spec_NfaOk.j0 k false n es en) true:=by
  rw[ev_succ];simp only[spec_NfaOk.j0,Bool.false_eq_true,if_false];exact hl0
 unfold spec_NfaOk.f fullB;simp only[spec_l1In_eq,Option.bind_some,ev_ite];by_cases c1:n≤3000
 ·rw[decide_eq_true (show 1≤n∧n≤3000 by omega),iP rfl,decide_eq_false (show ¬n>3000 by omega)]
  by_cases c2:(es.length:Int)>12000
  ·rw[iP c2,decide_eq_true c2]
   exact hj
  ·rw[iN c2,decide_eq_false c2,decide_eq_false (show ¬(en.length:Int)>40 by omega)]
   exact hj0
 ·rw[decide_eq_false (show ¬(1≤n∧n≤3000) by omega),iN (by decide),decide_eq_true (show n>3000 by omega)]
  exact hj
theorem rxs_parts{l:List S67}(h:okRxs l=true):l.length≤40∧∀x∈l,rxN x:=by
 obtain⟨h1,h2⟩:=Bool.and_eq_true_iff.1 h;have:=ot_ h1;exact⟨by omega,fun x hx=>by obtain⟨a,b,c⟩:=rxB_parts (List.all_eq_true.1 h2 x hx);exact⟨a,by omega,c⟩⟩
theorem spec_BuildNfa_ev(l:List S67)(hl:∀x∈l,x.f0.length≤1048576)(hk:∀x∈l,∀y∈x.f0,y.f2.length≤9223372036854775807):Ev (fun k=>spec_BuildNfa.g k l) (nfaA l):=by
 have hrx:∀m:List S67,(∀x∈m,x∈l)→∃K,∀k,K≤k→∀x∈m,spec_RxOk.f k x.f0=some (rxB x.f0):=by
  intro m
  induction m with
  |nil=>exact fun _=>⟨0,fun _ _ x hx=>by cases hx⟩
  | cons a m ih=>
    intro h;obtain⟨K1,h1⟩:=ih (fun x hx=>h x (List.mem_cons_of_mem _ hx));obtain⟨K2,h2⟩:=spec_RxOk_ev a.f0 (hl a (h a (List.mem_cons_self ..))) (hk a (h a (List.mem_cons_self ..)));refine⟨max K1 K2,fun k hkk x hx=>?_⟩;rcases List.mem_cons.1 hx with rfl|hx
    ·exact h2 k (by omega)
    ·exact h1 k (by omega) x hx
 obtain⟨K,hK⟩:=hrx l (fun _ h=>h);unfold nfaA;cases hb:okRxs l
 ·rw[iN (by decide)]
  refine⟨K,fun k hkk=>?_⟩;show spec_BuildNfa.g k l=_
  unfold spec_BuildNfa.g;rw[iP (hK k hkk),hb,iN (by decide)]
 ·rw[iP rfl]
  obtain⟨p1,p2⟩:=rxs_parts hb;have hi:=upS_in l p2 l.length (Nat.le_refl _);have hbn:=upNS_bn l p2 l.length (Nat.le_refl _);have hen:=upN_ends timesS l l.length;have ha:=up_ag l p2 l.length (Nat.le_refl _);have hbn2:=hbn.2.1;have hbn3:=hbn.2.2;obtain⟨K2,h2⟩:=spec_NfaOk_ev (upN timesS l l.length).1.1 (upN timesS l l.length).1.2 (upN timesS l l.length).2 hi (by omega) (by omega) (by omega);refine⟨max K K2,fun k hkk=>?_⟩;show spec_BuildNfa.g k l=_
  unfold spec_BuildNfa.g;have h3:spec_NfaOk.f k (upN timesS l l.length).1.1 (upN timesS l l.length).1.2 (upN timesS l l.length).2=some _:=h2 k (by omega);rw[iP (hK k (by omega)),hb,iP rfl,h3];show some _=some _
  congr 1;have ef:fullN (upN timesS l l.length).1=fullB (upN timesS l l.length).1.1 (upN timesS l l.length).1.2:=rfl;rw[←ef];unfold nfaP;rcases ha with ha| ⟨a1,a2⟩
  ·rw[ha]
   cases fullN (upN timesS l l.length).1<;>rfl
  ·rw[a1,a2]
   rfl
def addS(seen:List Int)(v:Int):List Int:=if v∈seen then seen else seen++ [v]
def seenR:List Int→List Int→List Int
 |seen,[]=>seen
 |seen,v :: l=>seenR (addS seen v) l
def outR:List Int→List Int→List Int
 | _,[]=>[]
 |seen,v :: l=>(seen.idxOf v:Int) :: outR (addS seen v) l
theorem addS_mem(seen:List Int)(v:Int):v∈addS seen v:=by
 unfold addS;split
 ·assumption
 ·simp
theorem addS_idx{seen:List Int}{u:Int}(v:Int)(h:u∈seen):(addS seen v).idxOf u=seen.idxOf u:=by
 unfold addS;split
 ·rfl
 ·rw[List.idxOf_append,iP h]
theorem addS_sub{seen:List Int}{u:Int}(v:Int)(h:u∈seen):u∈addS seen v:=by
 unfold addS;split
 ·exact h
 ·exact List.mem_append_left _ h
theorem seenR_sub{u:Int}:∀(l seen:List Int),u∈seen→u∈seenR seen l
 | [],_,h=>h
 |v :: l,seen,h=>seenR_sub l _ (addS_sub v h)
theorem seenR_idx{u:Int}:∀(l seen:List Int),u∈seen→(seenR seen l).idxOf u=seen.idxOf u
 | [],_,_=>rfl
 |v :: l,seen,h=>(seenR_idx l _ (addS_sub v h)).trans (addS_idx v h)
theorem seenR_mem{u:Int}:∀(l seen:List Int),u∈l→u∈seenR seen l
 | v :: l,seen,h=>by
   rcases List.mem_cons.1 h with rfl|h
   ·exact seenR_sub l _ (addS_mem _ _)
   ·exact seenR_mem l _ h
theorem idx_addS(seen:List Int)(v:Int):(addS seen v).idxOf v=seen.idxOf v:=by
 unfold addS;split
 ·rfl
 ·rename_i h
  rw[List.idxOf_append,iN h,List.idxOf_eq_length h];simp
theorem outR_eq:∀(l seen:List Int),outR seen l=l.map fun v=>((seenR seen l).idxOf v:Int)
 | [],_=>rfl
 | v :: l,seen=>by
   simp only[outR,seenR,List.map_cons];rw[outR_eq l,seenR_idx l _ (addS_mem _ _),idx_addS]
theorem outR_length(l seen:List Int):(outR seen l).length=l.length:=by rw[outR_eq];simp
theorem outR_blk:∀(l seen:List Int),blk (outR seen l) (seen.length:Int)=some ((seenR seen l).length:Int)
  | [],_=>rfl
  | v :: l,seen=>by
    have h1:seen.idxOf v≤seen.length:=List.idxOf_le_length;simp only[outR,seenR,blk];rw[iP (by omega)];have h2:max (seen.length:Int) ((seen.idxOf v:Int)+1)=((addS seen v).length:Int):=by
      unfold addS;by_cases h:v∈seen
      · have:=List.idxOf_lt_length_of_mem h
        rw[iP h];omega
      · rw[iN h,List.idxOf_eq_length h]
        simp;omega
    rw[h2];exact outR_blk l _
theorem idx_inj{F:List Int}{u v:Int}(hu:u∈F)(h:F.idxOf u=F.idxOf v):u=v:=by
 have h1:=List.idxOf_lt_length_of_mem hu;have h2:F.idxOf v<F.length:=by omega
 have e1:=List.getElem_idxOf h1;have e2:=List.getElem_idxOf h2;rw[←e1,←e2];simp only[h]
theorem outR_same{l:List Int}{i j:Nat}(hi:i<l.length)(hj:j<l.length):rd (outR [] l) (i:Int)=rd (outR [] l) (j:Int)↔rd l (i:Int)=rd l (j:Int):=by
 have e:∀i,i<l.length→rd (outR [] l) (i:Int)=((seenR [] l).idxOf (rd l (i:Int)):Int):=by
  intro i h;rw[outR_eq];unfold rd;rw[Int.toNat_natCast,List.getD_eq_getElem?_getD,List.getD_eq_getElem?_getD,List.getElem?_map,List.getElem?_eq_getElem h];rfl
 rw[e i hi,e j hj];constructor
 ·intro h
  refine idx_inj (F:=seenR [] l) (seenR_mem l [] ?_) (by omega);unfold rd;rw[Int.toNat_natCast,List.getD_eq_getElem?_getD,List.getElem?_eq_getElem hi];exact List.getElem_mem _
 ·intro h
  rw[h]
theorem seenR_length:∀(l seen:List Int),(seenR seen l).length≤seen.length+l.length
 | [],_=>by simp[seenR]
 | v :: l,seen=>by
   have h:=seenR_length l (addS seen v);have h2:(addS seen v).length≤seen.length+1:=by
     unfold addS;split<;>simp
   simp only[seenR,List.length_cons];omega
theorem rd_get(l:List Int)(i:Nat)(h:i<l.length):rd l (i:Int)=l[i]:=by
 unfold rd;rw[Int.toNat_natCast,List.getD_eq_getElem?_getD,List.getElem?_eq_getElem h];rfl
theorem Renamed_l1(l seen out:List Int)(i:Nat)(hi:i<l.length)(hl:l.length≤1000000)(hs:seen.length≤1000000)(ho:out.length≤1000000)(r:List Int × Int)
    (hn:Ev (fun k=>spec_l1Renamed.l0 k l (addS seen (rd l (i:Int))) (out++ [(seen.idxOf (rd l (i:Int)):Int)]) ((i+1:Nat):Int)) r):
    Ev (fun k=>spec_l1Renamed.l1 k l seen out (i:Int) (-1) 0) r:=by
  have hw:wrap64 ((i:Int)+1)=((i+1:Nat):Int):=wrap_succ hi (by omega)
  -- behind the place
  have done:∀j:Nat,seen.idxOf (rd l (i:Int))=j→j<seen.length→∀m:Nat,Ev (fun k=>spec_l1Renamed.l1 k l seen out (i:Int) (j:Int) (m:Int)) r:=by
   intro j hj hlt m;have hm:rd l (i:Int)∈seen:=List.idxOf_lt_length_iff.1 (by omega);have h2:Ev (fun k=>spec_l1Renamed.j2 k l seen out (i:Int) (j:Int) (m:Int) false) r:=by
    rw[ev_succ];simp only[spec_l1Renamed.j2,ev_ite];rw[iN (by decide),iN (by omega),iP (by omega),hw];unfold addS at hn;rw[iP hm,hj]at hn;exact hn
   rw[ev_succ];simp only[spec_l1Renamed.l1,ev_ite,decide_eq_false (show ¬((j:Int)<0) by omega)];split
   ·exact h2
   ·exact h2
  refine down seen.length (fun m=>m≤seen.idxOf (rd l (i:Int))→Ev (fun k=>spec_l1Renamed.l1 k l seen out (i:Int) (-1) (m:Int)) r) ?_ ?_ 0 (by omega) (by omega)
  ·intro hm
   have hnm:rd l (i:Int) ∉ seen:=fun h=>by have:=List.idxOf_lt_length_of_mem h;omega
   rw[ev_succ];simp only[spec_l1Renamed.l1,ev_ite];rw[iN (by omega),ev_succ];simp only[spec_l1Renamed.j2,ev_ite];rw[iN (by decide),iP (by omega),iP (by omega),iP (by omega),iP (by omega),iP (by omega),hw];unfold addS at hn;rw[iN hnm,List.idxOf_eq_length hnm]at hn;exact hn
  · intro m hm ih hle
    rw[ev_succ];simp only[spec_l1Renamed.l1,ev_ite];rw[iP (by omega),decide_eq_true (by omega),ev_succ];simp only[spec_l1Renamed.j2,ev_ite];rw[iP (by trivial),iP (by omega),iP (by omega),iP (by omega),iP (by omega),wrap_succ hm (by omega)];by_cases e:rd seen (m:Int)=rd l (i:Int)
    · rw [iP e]
      rw [rd_get seen m hm]at e;have hx:seen.idxOf (rd l (i:Int))=m:=by
        have h1:seen.idxOf (rd l (i:Int))≤m:=by
          rcases Nat.lt_or_ge m (seen.idxOf (rd l (i:Int)))with h|h
          ·exact absurd e (List.not_of_lt_findIdx (p:=fun x=>x==rd l (i:Int)) h |> fun q=>by simpa using q)
          ·exact h
        omega
      have:=done m hx hm (m+1);exact this
    · rw[iN e]
      refine ih ?_;rcases Nat.lt_or_eq_of_le hle with h|h
      ·exact h
      · refine absurd ?_ e
        rw[h];have h1:seen.idxOf (rd l (i:Int))<seen.length:=by omega
        rw[rd_get _ _ h1];exact List.getElem_idxOf h1
theorem Renamed_ok(l:List Int)(hl:l.length≤1000):Ev (fun k=>spec_l1Renamed.f k l) (outR [] l,((seenR [] l).length:Int)):=by
 unfold spec_l1Renamed.f;have key:=down l.length (fun i=>∀seen out:List Int,seen.length≤i→out.length=i→Ev (fun k=>spec_l1Renamed.l0 k l seen out (i:Nat)) (out++outR seen (l.drop i),((seenR seen (l.drop i)).length:Int))) ?_ ?_ 0 (by omega) [] [] (by simp) (by simp)
 ·simpa using key
 ·intro seen out _ _
  rw[ev_succ];simp only[spec_l1Renamed.l0,ev_ite];rw[iN (by omega),List.drop_length];refine ev_some.2 ?_;simp[outR,seenR]
 ·intro i hi ih seen out h1 h2
  have hs:(addS seen (rd l (i:Int))).length≤i+1:=by
   unfold addS;split
   ·omega
   ·simp;omega
  have hx:=ih (addS seen (rd l (i:Int))) (out++ [(seen.idxOf (rd l (i:Int)):Int)]) hs (by simp;omega);have hd:l.drop i=rd l (i:Int) :: l.drop (i+1):=by rw[List.drop_eq_getElem_cons hi,rd_get l i hi]
  rw[ev_succ,hd];simp only[spec_l1Renamed.l0,ev_ite,outR,seenR];rw[iP (by omega)];refine Renamed_l1 l seen out i hi (by omega) (by omega) (by omega) _ ?_;simpa using hx
end Go.Proofs.Ytlecpdpdcocibaa.P
