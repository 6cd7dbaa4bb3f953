/- The law FnFuel holds for every call: part 5 of 7 of the proof (walks of functions, and what they answer). Conditions: none beyond what the given row says. -/
import Derived.Test.YtlecpdpdcocibaaMFnFuel0
import Derived.Test.YtlecpdpdcocibaaMFnFuel1
import Derived.Test.YtlecpdpdcocibaaMFnFuel3
import Derived.Test.YtlecpdpdcocibaaMFnFuel2
import Derived.Shelf.Abstract
import Derived.Lib.Hide
import Derived.Maps.RangeWalk
import Derived.Maps.OwnOps
import Derived.Maps.Views
set_option maxHeartbeats 16000000
set_option maxRecDepth 100000
namespace Go.Proofs.Ytlecpdpdcocibaa.P
open Go.RowKit Go.Proofs.YtlecpdpdcocibaaW.PrintWords Go.Proofs.YtlecpdpdcocibaaW.PrintLast Go.Proofs.YtlecpdpdcocibaaW.PrintMore
attribute [local go_sem] max2_int min2_int max_two min_two max_three min_three max_four min_four
set_option linter.unusedVariables false
set_option linter.unusedSimpArgs false
mutual
def spec_l1Both.j0:Nat→List (S163)→List (S163)→Int→Bool→Option ((List (S163)))
 |0,_,_,_,_=>none
 |k+1,x0,x1,x2,x17=>if x17=true then(some (([]:List (S163))))else((spec_l1Marks.f k x0).bind fun t106=>((spec_l1Marks.f k x1).bind fun t109=>(spec_l1Both.l0 k x2 t106 t109 0)))
def spec_l1Both.l0:Nat→Int→List Bool→List Bool→Int→Option ((List (S163)))
 |0,_,_,_,_=>none
 |k+1,x2,x7,x8,x9=>if x9<256 then(if x2=0 then(if 0≤x9 then(if x9<(x7.length:Int)then(if rdOf false x7 x9=true then(spec_l1Both.l0 k x2 (x7.set (x9:Int).toNat true) x8 (wrap64 (x9+1)))else(if x9<(x8.length:Int)then(spec_l1Both.l0 k x2 (x7.set (x9:Int).toNat (rdOf false x8 x9)) x8 (wrap64 (x9+1)))else(none)))else(none))else(none))else(if x2=1 then(if 0≤x9 then(if x9<(x7.length:Int)then(if rdOf false x7 x9=true then(if x9<(x8.length:Int)then(spec_l1Both.l0 k x2 (x7.set (x9:Int).toNat (rdOf false x8 x9)) x8 (wrap64 (x9+1)))else(none))else(spec_l1Both.l0 k x2 (x7.set (x9:Int).toNat false) x8 (wrap64 (x9+1))))else(none))else(none))else(if x2=2 then(if 0≤x9 then(if x9<(x7.length:Int)then(if rdOf false x7 x9=true then(if x9<(x8.length:Int)then(spec_l1Both.l0 k x2 (x7.set (x9:Int).toNat (!(rdOf false x8 x9))) x8 (wrap64 (x9+1)))else(none))else(spec_l1Both.l0 k x2 (x7.set (x9:Int).toNat false) x8 (wrap64 (x9+1))))else(none))else(none))else(spec_l1Both.l0 k x2 x7 x8 (wrap64 (x9+1))))))else((spec_l1Class.f k x7).bind fun t112=>(some t112))
end
def spec_l1Both.f(k:Nat)(l0:List (S163))(l1:List (S163))(a2:Int):Option ((List (S163))):=(spec_ClassOk.f k l0).bind fun t101=>(if t101=true then((spec_ClassOk.f k l1).bind fun t102=>(spec_l1Both.j0 k l0 l1 a2 (!t102)))else(spec_l1Both.j0 k l0 l1 a2 true))
theorem spec_l1Both.calls(k:Nat)(A0:Option Addr)(c0:Nat)(l0:List (S163))(A1:Option Addr)(c1:Nat)(l1:List (S163))(a2:Int)(r:List (S163))(w:World)(hr0:Kd.C k163 w A0 l0.length l0)(hc0:l0.length≤c0)(hr1:Kd.C k163 w A1 l1.length l1)(hc1:l1.length≤c1)(h:spec_l1Both.f k l0 l1 a2=some r):
  Calls Try.prog 156 #[.slice A0 l0.length c0, .slice A1 l1.length c1, .int .i64 a2] w fun e w'=>∃v0_:Value,e= .returned (v0_)∧Kd.R k163 163 w' w.heap.size (fun _=>True) v0_ r∧Below w.heap.size w w':=by
 have HR0:=q_ hr0;have HC0:=q_ hc0;clear hr0 hc0;have HR1:=q_ hr1;have HC1:=q_ hc1;clear hr1 hc1;have HB:=q_ (Below.refl w.heap.size w);have H:((spec_ClassOk.f k l0).bind fun t101=>(if t101=true then((spec_ClassOk.f k l1).bind fun t102=>(spec_l1Both.j0 k l0 l1 a2 (!t102)))else(spec_l1Both.j0 k l0 l1 a2 true)))=some r:=h;clear h;have HC4:=q_ H;clear H;go_enter Try.func156,Try.ntmps156;go_upto_region 1 with(fail)
 go_cut [17] (fun v17 wc=>∃(kq:Nat) (x17_3:Bool),v17= .bool x17_3∧J0 (spec_l1Both.j0 kq l0 l1 a2 x17_3=some r)∧J0 (kq≤k)∧J0 (Below w.heap.size w wc))
 case first=>
  have H:=HC4.o;clear HC4;obtain⟨t101,A5,H⟩:=ob_ H;by_cases c6:t101=true;rotate_left
  ·replace c6:=Bool.eq_false_iff.mpr c6;subst c6;rw[if_neg nft_]at H;have H':=q_ H;clear H
   go_wp2_with(((with_reducible refine gate_callee (f:=116) rfl ?_);refine gl_ (some 11) rfl rfl Try.func116 #[.slice A0 l0.length c0] ?_;(with_reducible refine(spec_ClassOk.calls k _ _ l0 false _ ?side1 ?side2 A5.o).mono ?_);(case side1=>exact Kd.C_below HR0.o (be_ HB.o));(case side2=>exact HC0.o);rintro e w10 ⟨rfl,hb⟩;refine⟨_,rfl,?_⟩;replace HB:=sb_ HB hb;clear hb))
   go_meet
   case rel=>exact⟨_,(true),rs_,H',⟨by omega⟩,⟨be_ HB.o⟩⟩
  subst c6;rw[if_pos rfl]at H;obtain⟨t102,A7,H⟩:=ob_ H;have H':=q_ H;clear H
  go_wp2_with(first| ((with_reducible refine gate_callee (f:=116) rfl ?_);refine gl_ (some 11) rfl rfl Try.func116 #[.slice A0 l0.length c0] ?_;(with_reducible refine(spec_ClassOk.calls k _ _ l0 true _ ?side1 ?side2 A5.o).mono ?_);(case side1=>exact Kd.C_below HR0.o (be_ HB.o));(case side2=>exact HC0.o);rintro e w8 ⟨rfl,hb⟩;refine⟨_,rfl,?_⟩;replace HB:=sb_ HB hb;clear hb)| (go_at_call 116;(with_reducible refine(spec_ClassOk.calls k _ _ l1 t102 _ ?side1 ?side2 A7.o).mono ?_);(case side1=>exact Kd.C_below HR1.o (be_ HB.o));(case side2=>exact HC1.o);rintro e w9 ⟨rfl,hb⟩;replace HB:=sb_ HB hb;clear hb))
  go_meet
  case rel=>exact⟨_,(!t102),rs_,H',⟨by omega⟩,⟨be_ HB.o⟩⟩
 case rest=>
  clear HC4;obtain⟨kq,x17_3,rfl,HA,HJ3,HB⟩:=hcut;cases kq with
  |zero=>exact absurd HA.o (by simp[spec_l1Both.j0])
  | succ kj3=>
   have H:=HA.o;clear HA;simp only[spec_l1Both.j0]at H;by_cases c11:x17_3=true
   ·subst c11;rw[if_pos rfl]at H;generalize hy103:([]:List (S163))=y103 at H;have Ny103:=q_ hy103.symm;clear hy103;obtain rfl:=Option.some.inj H
    go_wp2_with(((with_reducible refine gate_dst (N:=18) rfl ?_);refine Kd.R_lit k163 _ 163 ?hg (N:=18) ?hd (xs:=([]:List (S163))) (inner:=[]) (ok:=fun _=>True) (okp:=fun _=>True) ?hr ?hp (fun _ hk=>hk) trivial (Below.refl _ _) (Nat.le_refl _) (by simp) ?_;(case hd=>rfl);(case hg=>rfl);(case hr=>first| (go_simp;done)| (go_simp;rfl));(case hp=>exact(Reps.none _ _));intro v104 w12 ho13 hb hg_ hnew_;clear hg_ hnew_;(rw[←Ny103.o]at ho13);have HO105:=q_ (Kd.R_lower ho13 (below_size (be_ HB.o)));replace HB:=sb_ HB hb;clear hb ho13))
    go_ret
    exact⟨_,rt_,ra_ HO105.o,be_ HB.o⟩
   replace c11:=Bool.eq_false_iff.mpr c11;subst c11;rw[if_neg nft_]at H;obtain⟨t106,A14,H⟩:=ob_ H;obtain⟨t109,A15,H⟩:=ob_ H;have H':=q_ H;clear H
   go_wp2_with(first| ((with_reducible refine gate_callee (f:=117) rfl ?_);refine gl_ (some 20) rfl rfl Try.func117 #[.slice A0 l0.length c0] ?_;(with_reducible refine(spec_l1Marks.calls kj3 _ _ l0 t106 _ ?side1 ?side2 A14.o).mono ?_);(case side1=>exact Kd.C_below HR0.o (be_ HB.o));(case side2=>exact HC0.o);rintro e w16 ⟨v107,rfl,ho0,hb⟩;refine⟨_,rfl,?_⟩;have HO108:=q_ (Kd.R_lower ho0 (below_size (be_ HB.o)));replace HB:=sb_ HB hb;clear hb ho0)| ((with_reducible refine gate_callee (f:=117) rfl ?_);refine gl_ (some 22) rfl rfl Try.func117 #[.slice A1 l1.length c1] ?_;(with_reducible refine(spec_l1Marks.calls kj3 _ _ l1 t109 _ ?side1 ?side2 A15.o).mono ?_);(case side1=>exact Kd.C_below HR1.o (be_ HB.o));(case side2=>exact HC1.o);rintro e w17 ⟨v110,rfl,ho0,hb⟩;refine⟨_,rfl,?_⟩;have HO111:=q_ (Kd.R_lower (Kd.R_new' ho0 (Kd.R_lt (ra_ HO108.o))) (below_size (be_ HB.o)));replace HO108:=eR_ HO108 (Kd.R_base ho0) hb;replace HB:=sb_ HB hb;clear hb ho0))
   go_loopg [9] kj3 (fun kq v9 w'=>∃(x7_2:List Bool) (x9_2:Int),v9= .int .i64 x9_2∧J0 (spec_l1Both.l0 kq a2 x7_2 t109 x9_2=some r)∧J0 (kq≤kj3)∧J0 (Kd.R Kd.bool 4 w' w.heap.size (fun k_=>some k_≠(v110:Value).ownBlock) v107 x7_2)∧J0 (Kd.R Kd.bool 4 w' w.heap.size (fun k_=>some k_≠(v107:Value).ownBlock) v110 t109)∧J0 (Below w.heap.size w w'))
   case atStart=>exact⟨(t106),(0),rs_,H',⟨Nat.le_refl _⟩,⟨mR_ HO108 (fun _ hk=>hk.2)⟩,⟨mR_ HO111 (fun _ hk=>hk.2)⟩,⟨be_ HB.o⟩⟩
   case round=>
    clear H';obtain⟨x7_2,x9_2,rfl,HA,HK2,HO_7,HO_8,HB⟩:=hrel;cases gk with
    |zero=>exact absurd HA.o (by simp[spec_l1Both.l0])
    | succ k2=>
     have H:=HA.o;clear HA;simp only[spec_l1Both.l0]at H;by_cases c18:x9_2<256;rotate_left
     ·rw[if_neg c18]at H;have c18b0:=df_ c18;clear c18;obtain⟨t112,A64,H⟩:=ob_ H;obtain rfl:=Option.some.inj H;obtain⟨Ao65,co65,eo65⟩:=Kd.R_slice HO_7.o;subst eo65
      go_wp2_with(((with_reducible refine gate_callee (f:=148) rfl ?_);refine gl_ (some 75) rfl rfl Try.func148 #[.slice Ao65 x7_2.length co65] ?_;(with_reducible refine(spec_l1Class.calls k2 _ _ x7_2 t112 _ ?side1 ?side2 A64.o).mono ?_);(case side1=>exact ca_ (Kd.R_reads' HO_7.o).2.2);(case side2=>exact(Kd.R_reads' HO_7.o).2.1);rintro e w66 ⟨v113,rfl,ho0,hb⟩;refine⟨_,rfl,?_⟩;have HO114:=q_ (Kd.R_lower ho0 (below_size (be_ HB.o)));replace HO_7:=bR_ HO_7 hb;replace HO_8:=bR_ HO_8 hb;replace HB:=sb_ HB hb;clear hb ho0))
      go_ret
      exact⟨_,rt_,ra_ HO114.o,be_ HB.o⟩
     rw[if_pos c18]at H;have c18b0:=dt_ c18;clear c18;by_cases c19:a2=0
     ·rw[if_pos c19]at H;have c19b0:(a2==0)=true:=beq_iff_eq.mpr c19;have c19b1:(a2 != 0)=false:=bne_eq_false_iff_eq.mpr c19;clear c19;obtain⟨c20,H⟩:=ip_ H;have c20b0:=dt_ c20;clear c20;obtain⟨c21,H⟩:=ip_ H;have c21b0:=dt_ c21;clear c21;obtain⟨bq22,hbq22⟩:∃b_:Bool,b_=(rdOf false x7_2 x9_2):=⟨_,rfl⟩
      replace H:(if bq22=true then(spec_l1Both.l0 k2 a2 (x7_2.set (x9_2:Int).toNat true) t109 (wrap64 (x9_2+1)))else(if x9_2<(t109.length:Int)then(spec_l1Both.l0 k2 a2 (x7_2.set (x9_2:Int).toNat (rdOf false t109 x9_2)) t109 (wrap64 (x9_2+1)))else(none)))=some r:=by rw[←hbq22]at H;exact H
      have Nbq22:=q_ hbq22;clear hbq22;by_cases c23:bq22=true
      ·subst c23;rw[if_pos rfl]at H;generalize hy116:(x7_2.set (x9_2:Int).toNat true:List Bool)=y116 at H;have Ny116:=q_ hy116.symm;clear hy116;have H':=q_ H;clear H;obtain⟨Ao25,co25,eo25⟩:=Kd.R_slice HO_7.o;subst eo25;have p115:0≤(x9_2:Int):=ot_ as_;have q115:x9_2<(x7_2.length:Int):=ot_ as_;obtain⟨ad115,e115,hx115_0⟩:=Kd.at_bool (Kd.R_reads' HO_7.o).2.2 x9_2 p115 q115
       (try rw[←Nbq22.o]at hx115_0)
       cases e115;replace p115:=eq_true p115;replace q115:=eq_true q115;have p24:0≤(x9_2:Int):=ot_ as_;have q24:(x9_2:Int)<((x7_2.length:Int):Int):=ot_ as_;obtain⟨go24,co24,eo24,gb24,gl24,cl24,HG24⟩:=Kd.R_form HO_7.o (by omega);(cases eo24);have GB24:=q_ gb24;have GG24:=q_ HG24;clear gb24 gl24 HG24
       (simp only[add_plain]at hx115_0)
       obtain⟨hx24_0,hf24_0⟩:=Kd.R_celln false HO_7.o (x9_2:Int) p24 q24;replace p24:=eq_true p24;replace q24:=eq_true q24;have HP26:=Kd.R_putg HO_7.o (x9_2:Int) true
       go_wp2_with(((with_reducible refine gate_store (t:=4) (p:=42) rfl ?_);refine store_event (t:=4) (p:=42) (v:=?vo_w27) (w1:=(wr.setCell ⟨go24,(x9_2:Int).toNat,none⟩ (.bool true))) ?hg ?ho ?hn ?hr ?_;(case ho=>rfl);(case hg=>rfl);(case hn=>rfl);(case hr=>first| (go_simp;done)| (go_simp;rfl));intro w27 hw;have hg:wr.grownBy w27 (some go24):=(by rw[hw];exact HP26.2);have hp_:Kd.R Kd.bool 4 w27 w.heap.size (fun k_=>some k_≠(v110:Value).ownBlock) (.slice (some ⟨go24,0,none⟩) x7_2.length co25) y116:=(by rw[hw,Ny116.o];exact HP26.1);clear HP26;replace HO_7:=q_ (hp_);replace HO_8:=q_ (Kd.R_after (v:=(.slice (some ⟨go24,0,none⟩) x7_2.length co25)) (v1:=(.slice (some ⟨go24,0,none⟩) x7_2.length co25)) (ok:=(fun _=>True)) (mR_ HO_8 (fun _ hk=>⟨trivial,hk⟩)) hg (.inl rfl));replace HB:=q_ ((by rw[hw];exact below_set (HB.o) GB24.out:Below w.heap.size w w27));clear hg hw hp_))
       go_roundg k2
       case measure=>have:=HJ3.o;have:=HK2.o;omega
       case rel=>exact⟨(y116),(wrap64 (x9_2+1)),rs_,H',⟨by have:=HJ3.o;have:=HK2.o;omega⟩,⟨ra_ HO_7.o⟩,⟨mR_ HO_8 (fun _ hk=>hk.2)⟩,⟨be_ HB.o⟩⟩
      replace c23:=Bool.eq_false_iff.mpr c23;subst c23;rw[if_neg nft_]at H;obtain⟨c28,H⟩:=ip_ H;have c28b0:=dt_ c28;clear c28;generalize hy118:(x7_2.set (x9_2:Int).toNat (rdOf false t109 x9_2):List Bool)=y118 at H;have Ny118:=q_ hy118.symm;clear hy118;have H':=q_ H;clear H;obtain⟨Ao30,co30,eo30⟩:=Kd.R_slice HO_7.o;subst eo30;have p115:0≤(x9_2:Int):=ot_ as_;have q115:x9_2<(x7_2.length:Int):=ot_ as_;obtain⟨ad115,e115,hx115_0⟩:=Kd.at_bool (Kd.R_reads' HO_7.o).2.2 x9_2 p115 q115
      (try rw[←Nbq22.o]at hx115_0)
      cases e115;replace p115:=eq_true p115;replace q115:=eq_true q115;obtain⟨Ao31,co31,eo31⟩:=Kd.R_slice HO_8.o;subst eo31;have p117:0≤(x9_2:Int):=ot_ as_;have q117:x9_2<(t109.length:Int):=ot_ as_;obtain⟨ad117,e117,hx117_0⟩:=Kd.at_bool (Kd.R_reads' HO_8.o).2.2 x9_2 p117 q117;cases e117;replace p117:=eq_true p117;replace q117:=eq_true q117;have p29:0≤(x9_2:Int):=ot_ as_;have q29:(x9_2:Int)<((x7_2.length:Int):Int):=ot_ as_;obtain⟨go29,co29,eo29,gb29,gl29,cl29,HG29⟩:=Kd.R_form HO_7.o (by omega);(cases eo29);have GB29:=q_ gb29;have GG29:=q_ HG29;clear gb29 gl29 HG29
      (simp only[add_plain]at hx115_0)
      obtain⟨hx29_0,hf29_0⟩:=Kd.R_celln false HO_7.o (x9_2:Int) p29 q29;replace p29:=eq_true p29;replace q29:=eq_true q29;have HP32:=Kd.R_putg HO_7.o (x9_2:Int) (rdOf false t109 x9_2)
      go_wp2_with(((with_reducible refine gate_store (t:=4) (p:=42) rfl ?_);refine store_event (t:=4) (p:=42) (v:=?vo_w33) (w1:=(wr.setCell ⟨go29,(x9_2:Int).toNat,none⟩ (.bool (rdOf false t109 x9_2)))) ?hg ?ho ?hn ?hr ?_;(case ho=>rfl);(case hg=>rfl);(case hn=>rfl);(case hr=>first| (go_simp;done)| (go_simp;rfl));intro w33 hw;have hg:wr.grownBy w33 (some go29):=(by rw[hw];exact HP32.2);have hp_:Kd.R Kd.bool 4 w33 w.heap.size (fun k_=>some k_≠(.slice (some ad117) t109.length co31:Value).ownBlock) (.slice (some ⟨go29,0,none⟩) x7_2.length co30) y118:=(by rw[hw,Ny118.o];exact HP32.1);clear HP32;replace HO_7:=q_ (hp_);replace HO_8:=q_ (Kd.R_after (v:=(.slice (some ⟨go29,0,none⟩) x7_2.length co30)) (v1:=(.slice (some ⟨go29,0,none⟩) x7_2.length co30)) (ok:=(fun _=>True)) (mR_ HO_8 (fun _ hk=>⟨trivial,hk⟩)) hg (.inl rfl));replace HB:=q_ ((by rw[hw];exact below_set (HB.o) GB29.out:Below w.heap.size w w33));clear hg hw hp_))
      go_roundg k2
      case measure=>have:=HJ3.o;have:=HK2.o;omega
      case rel=>exact⟨(y118),(wrap64 (x9_2+1)),rs_,H',⟨by have:=HJ3.o;have:=HK2.o;omega⟩,⟨ra_ HO_7.o⟩,⟨mR_ HO_8 (fun _ hk=>hk.2)⟩,⟨be_ HB.o⟩⟩
     rw[if_neg c19]at H;have c19b0:(a2==0)=false:=beq_eq_false_iff_ne.mpr c19;have c19b1:(a2 != 0)=true:=bne_iff_ne.mpr c19;by_cases c34:a2=1
     ·rw[if_pos c34]at H;have c34b0:(a2==1)=true:=beq_iff_eq.mpr c34;have c34b1:(a2 != 1)=false:=bne_eq_false_iff_eq.mpr c34;clear c34;obtain⟨c35,H⟩:=ip_ H;have c35b0:=dt_ c35;clear c35;obtain⟨c36,H⟩:=ip_ H;have c36b0:=dt_ c36;clear c36;obtain⟨bq37,hbq37⟩:∃b_:Bool,b_=(rdOf false x7_2 x9_2):=⟨_,rfl⟩
      replace H:(if bq37=true then(if x9_2<(t109.length:Int)then(spec_l1Both.l0 k2 a2 (x7_2.set (x9_2:Int).toNat (rdOf false t109 x9_2)) t109 (wrap64 (x9_2+1)))else(none))else(spec_l1Both.l0 k2 a2 (x7_2.set (x9_2:Int).toNat false) t109 (wrap64 (x9_2+1))))=some r:=by rw[←hbq37]at H;exact H
      have Nbq37:=q_ hbq37;clear hbq37;by_cases c38:bq37=true;rotate_left
      ·replace c38:=Bool.eq_false_iff.mpr c38;subst c38;rw[if_neg nft_]at H;generalize hy122:(x7_2.set (x9_2:Int).toNat false:List Bool)=y122 at H;have Ny122:=q_ hy122.symm;clear hy122;have H':=q_ H;clear H;obtain⟨Ao46,co46,eo46⟩:=Kd.R_slice HO_7.o;subst eo46;have p119:0≤(x9_2:Int):=ot_ as_;have q119:x9_2<(x7_2.length:Int):=ot_ as_;obtain⟨ad119,e119,hx119_0⟩:=Kd.at_bool (Kd.R_reads' HO_7.o).2.2 x9_2 p119 q119
       (try rw[←Nbq37.o]at hx119_0)
       cases e119;replace p119:=eq_true p119;replace q119:=eq_true q119;have p45:0≤(x9_2:Int):=ot_ as_;have q45:(x9_2:Int)<((x7_2.length:Int):Int):=ot_ as_;obtain⟨go45,co45,eo45,gb45,gl45,cl45,HG45⟩:=Kd.R_form HO_7.o (by omega);(cases eo45);have GB45:=q_ gb45;have GG45:=q_ HG45;clear gb45 gl45 HG45
       (simp only[add_plain]at hx119_0)
       obtain⟨hx45_0,hf45_0⟩:=Kd.R_celln false HO_7.o (x9_2:Int) p45 q45;replace p45:=eq_true p45;replace q45:=eq_true q45;have HP47:=Kd.R_putg HO_7.o (x9_2:Int) false
       go_wp2_with(((with_reducible refine gate_store (t:=4) (p:=57) rfl ?_);refine store_event (t:=4) (p:=57) (v:=?vo_w48) (w1:=(wr.setCell ⟨go45,(x9_2:Int).toNat,none⟩ (.bool false))) ?hg ?ho ?hn ?hr ?_;(case ho=>rfl);(case hg=>rfl);(case hn=>rfl);(case hr=>first| (go_simp;done)| (go_simp;rfl));intro w48 hw;have hg:wr.grownBy w48 (some go45):=(by rw[hw];exact HP47.2);have hp_:Kd.R Kd.bool 4 w48 w.heap.size (fun k_=>some k_≠(v110:Value).ownBlock) (.slice (some ⟨go45,0,none⟩) x7_2.length co46) y122:=(by rw[hw,Ny122.o];exact HP47.1);clear HP47;replace HO_7:=q_ (hp_);replace HO_8:=q_ (Kd.R_after (v:=(.slice (some ⟨go45,0,none⟩) x7_2.length co46)) (v1:=(.slice (some ⟨go45,0,none⟩) x7_2.length co46)) (ok:=(fun _=>True)) (mR_ HO_8 (fun _ hk=>⟨trivial,hk⟩)) hg (.inl rfl));replace HB:=q_ ((by rw[hw];exact below_set (HB.o) GB45.out:Below w.heap.size w w48));clear hg hw hp_))
       go_roundg k2
       case measure=>have:=HJ3.o;have:=HK2.o;omega
       case rel=>exact⟨(y122),(wrap64 (x9_2+1)),rs_,H',⟨by have:=HJ3.o;have:=HK2.o;omega⟩,⟨ra_ HO_7.o⟩,⟨mR_ HO_8 (fun _ hk=>hk.2)⟩,⟨be_ HB.o⟩⟩
      subst c38;rw[if_pos rfl]at H;obtain⟨c39,H⟩:=ip_ H;have c39b0:=dt_ c39;clear c39;generalize hy121:(x7_2.set (x9_2:Int).toNat (rdOf false t109 x9_2):List Bool)=y121 at H;have Ny121:=q_ hy121.symm;clear hy121;have H':=q_ H;clear H;obtain⟨Ao41,co41,eo41⟩:=Kd.R_slice HO_7.o;subst eo41;have p119:0≤(x9_2:Int):=ot_ as_;have q119:x9_2<(x7_2.length:Int):=ot_ as_;obtain⟨ad119,e119,hx119_0⟩:=Kd.at_bool (Kd.R_reads' HO_7.o).2.2 x9_2 p119 q119
      (try rw[←Nbq37.o]at hx119_0)
      cases e119;replace p119:=eq_true p119;replace q119:=eq_true q119;obtain⟨Ao42,co42,eo42⟩:=Kd.R_slice HO_8.o;subst eo42;have p120:0≤(x9_2:Int):=ot_ as_;have q120:x9_2<(t109.length:Int):=ot_ as_;obtain⟨ad120,e120,hx120_0⟩:=Kd.at_bool (Kd.R_reads' HO_8.o).2.2 x9_2 p120 q120;cases e120;replace p120:=eq_true p120;replace q120:=eq_true q120;have p40:0≤(x9_2:Int):=ot_ as_;have q40:(x9_2:Int)<((x7_2.length:Int):Int):=ot_ as_;obtain⟨go40,co40,eo40,gb40,gl40,cl40,HG40⟩:=Kd.R_form HO_7.o (by omega);(cases eo40);have GB40:=q_ gb40;have GG40:=q_ HG40;clear gb40 gl40 HG40
      (simp only[add_plain]at hx119_0)
      obtain⟨hx40_0,hf40_0⟩:=Kd.R_celln false HO_7.o (x9_2:Int) p40 q40;replace p40:=eq_true p40;replace q40:=eq_true q40;have HP43:=Kd.R_putg HO_7.o (x9_2:Int) (rdOf false t109 x9_2)
      go_wp2_with(((with_reducible refine gate_store (t:=4) (p:=57) rfl ?_);refine store_event (t:=4) (p:=57) (v:=?vo_w44) (w1:=(wr.setCell ⟨go40,(x9_2:Int).toNat,none⟩ (.bool (rdOf false t109 x9_2)))) ?hg ?ho ?hn ?hr ?_;(case ho=>rfl);(case hg=>rfl);(case hn=>rfl);(case hr=>first| (go_simp;done)| (go_simp;rfl));intro w44 hw;have hg:wr.grownBy w44 (some go40):=(by rw[hw];exact HP43.2);have hp_:Kd.R Kd.bool 4 w44 w.heap.size (fun k_=>some k_≠(.slice (some ad120) t109.length co42:Value).ownBlock) (.slice (some ⟨go40,0,none⟩) x7_2.length co41) y121:=(by rw[hw,Ny121.o];exact HP43.1);clear HP43;replace HO_7:=q_ (hp_);replace HO_8:=q_ (Kd.R_after (v:=(.slice (some ⟨go40,0,none⟩) x7_2.length co41)) (v1:=(.slice (some ⟨go40,0,none⟩) x7_2.length co41)) (ok:=(fun _=>True)) (mR_ HO_8 (fun _ hk=>⟨trivial,hk⟩)) hg (.inl rfl));replace HB:=q_ ((by rw[hw];exact below_set (HB.o) GB40.out:Below w.heap.size w w44));clear hg hw hp_))
      go_roundg k2
      case measure=>have:=HJ3.o;have:=HK2.o;omega
      case rel=>exact⟨(y121),(wrap64 (x9_2+1)),rs_,H',⟨by have:=HJ3.o;have:=HK2.o;omega⟩,⟨ra_ HO_7.o⟩,⟨mR_ HO_8 (fun _ hk=>hk.2)⟩,⟨be_ HB.o⟩⟩
     rw[if_neg c34]at H;have c34b0:(a2==1)=false:=beq_eq_false_iff_ne.mpr c34;have c34b1:(a2 != 1)=true:=bne_iff_ne.mpr c34;by_cases c49:a2=2;rotate_left
     ·rw[if_neg c49]at H;have c49b0:(a2==2)=false:=beq_eq_false_iff_ne.mpr c49;have c49b1:(a2 != 2)=true:=bne_iff_ne.mpr c49;have H':=q_ H;clear H;go_wp2
      go_roundg k2
      case measure=>have:=HJ3.o;have:=HK2.o;omega
      case rel=>exact⟨(x7_2),(wrap64 (x9_2+1)),rs_,H',⟨by have:=HJ3.o;have:=HK2.o;omega⟩,⟨ra_ HO_7.o⟩,⟨ra_ HO_8.o⟩,⟨be_ HB.o⟩⟩
     rw[if_pos c49]at H;have c49b0:(a2==2)=true:=beq_iff_eq.mpr c49;have c49b1:(a2 != 2)=false:=bne_eq_false_iff_eq.mpr c49;clear c49;obtain⟨c50,H⟩:=ip_ H;have c50b0:=dt_ c50;clear c50;obtain⟨c51,H⟩:=ip_ H;have c51b0:=dt_ c51;clear c51;obtain⟨bq52,hbq52⟩:∃b_:Bool,b_=(rdOf false x7_2 x9_2):=⟨_,rfl⟩;replace H:(if bq52=true then(if x9_2<(t109.length:Int)then(spec_l1Both.l0 k2 a2 (x7_2.set (x9_2:Int).toNat (!(rdOf false t109 x9_2))) t109 (wrap64 (x9_2+1)))else(none))else(spec_l1Both.l0 k2 a2 (x7_2.set (x9_2:Int).toNat false) t109 (wrap64 (x9_2+1))))=some r:=by rw[←hbq52]at H;exact H
     have Nbq52:=q_ hbq52;clear hbq52;by_cases c53:bq52=true;rotate_left
     ·replace c53:=Bool.eq_false_iff.mpr c53;subst c53;rw[if_neg nft_]at H;generalize hy126:(x7_2.set (x9_2:Int).toNat false:List Bool)=y126 at H;have Ny126:=q_ hy126.symm;clear hy126;have H':=q_ H;clear H;obtain⟨Ao61,co61,eo61⟩:=Kd.R_slice HO_7.o;subst eo61;have p123:0≤(x9_2:Int):=ot_ as_;have q123:x9_2<(x7_2.length:Int):=ot_ as_;obtain⟨ad123,e123,hx123_0⟩:=Kd.at_bool (Kd.R_reads' HO_7.o).2.2 x9_2 p123 q123
      (try rw[←Nbq52.o]at hx123_0)
      cases e123;replace p123:=eq_true p123;replace q123:=eq_true q123;have p60:0≤(x9_2:Int):=ot_ as_;have q60:(x9_2:Int)<((x7_2.length:Int):Int):=ot_ as_;obtain⟨go60,co60,eo60,gb60,gl60,cl60,HG60⟩:=Kd.R_form HO_7.o (by omega);(cases eo60);have GB60:=q_ gb60;have GG60:=q_ HG60;clear gb60 gl60 HG60
      (simp only[add_plain]at hx123_0)
      obtain⟨hx60_0,hf60_0⟩:=Kd.R_celln false HO_7.o (x9_2:Int) p60 q60;replace p60:=eq_true p60;replace q60:=eq_true q60;have HP62:=Kd.R_putg HO_7.o (x9_2:Int) false
      go_wp2_with(((with_reducible refine gate_store (t:=4) (p:=73) rfl ?_);refine store_event (t:=4) (p:=73) (v:=?vo_w63) (w1:=(wr.setCell ⟨go60,(x9_2:Int).toNat,none⟩ (.bool false))) ?hg ?ho ?hn ?hr ?_;(case ho=>rfl);(case hg=>rfl);(case hn=>rfl);(case hr=>first| (go_simp;done)| (go_simp;rfl));intro w63 hw;have hg:wr.grownBy w63 (some go60):=(by rw[hw];exact HP62.2);have hp_:Kd.R Kd.bool 4 w63 w.heap.size (fun k_=>some k_≠(v110:Value).ownBlock) (.slice (some ⟨go60,0,none⟩) x7_2.length co61) y126:=(by rw[hw,Ny126.o];exact HP62.1);clear HP62;replace HO_7:=q_ (hp_);replace HO_8:=q_ (Kd.R_after (v:=(.slice (some ⟨go60,0,none⟩) x7_2.length co61)) (v1:=(.slice (some ⟨go60,0,none⟩) x7_2.length co61)) (ok:=(fun _=>True)) (mR_ HO_8 (fun _ hk=>⟨trivial,hk⟩)) hg (.inl rfl));replace HB:=q_ ((by rw[hw];exact below_set (HB.o) GB60.out:Below w.heap.size w w63));clear hg hw hp_))
      go_roundg k2
      case measure=>have:=HJ3.o;have:=HK2.o;omega
      case rel=>exact⟨(y126),(wrap64 (x9_2+1)),rs_,H',⟨by have:=HJ3.o;have:=HK2.o;omega⟩,⟨ra_ HO_7.o⟩,⟨mR_ HO_8 (fun _ hk=>hk.2)⟩,⟨be_ HB.o⟩⟩
     subst c53;rw[if_pos rfl]at H;obtain⟨c54,H⟩:=ip_ H;have c54b0:=dt_ c54;clear c54;generalize hy125:(x7_2.set (x9_2:Int).toNat (!(rdOf false t109 x9_2)):List Bool)=y125 at H;have Ny125:=q_ hy125.symm;clear hy125;have H':=q_ H;clear H;obtain⟨Ao56,co56,eo56⟩:=Kd.R_slice HO_7.o;subst eo56;have p123:0≤(x9_2:Int):=ot_ as_;have q123:x9_2<(x7_2.length:Int):=ot_ as_;obtain⟨ad123,e123,hx123_0⟩:=Kd.at_bool (Kd.R_reads' HO_7.o).2.2 x9_2 p123 q123
     (try rw[←Nbq52.o]at hx123_0)
     cases e123;replace p123:=eq_true p123;replace q123:=eq_true q123;obtain⟨Ao57,co57,eo57⟩:=Kd.R_slice HO_8.o;subst eo57;have p124:0≤(x9_2:Int):=ot_ as_;have q124:x9_2<(t109.length:Int):=ot_ as_;obtain⟨ad124,e124,hx124_0⟩:=Kd.at_bool (Kd.R_reads' HO_8.o).2.2 x9_2 p124 q124;cases e124;replace p124:=eq_true p124;replace q124:=eq_true q124;have p55:0≤(x9_2:Int):=ot_ as_;have q55:(x9_2:Int)<((x7_2.length:Int):Int):=ot_ as_;obtain⟨go55,co55,eo55,gb55,gl55,cl55,HG55⟩:=Kd.R_form HO_7.o (by omega);(cases eo55);have GB55:=q_ gb55;have GG55:=q_ HG55;clear gb55 gl55 HG55
     (simp only[add_plain]at hx123_0)
     obtain⟨hx55_0,hf55_0⟩:=Kd.R_celln false HO_7.o (x9_2:Int) p55 q55;replace p55:=eq_true p55;replace q55:=eq_true q55;have HP58:=Kd.R_putg HO_7.o (x9_2:Int) (!(rdOf false t109 x9_2))
     go_wp2_with(((with_reducible refine gate_store (t:=4) (p:=73) rfl ?_);refine store_event (t:=4) (p:=73) (v:=?vo_w59) (w1:=(wr.setCell ⟨go55,(x9_2:Int).toNat,none⟩ (.bool (!(rdOf false t109 x9_2))))) ?hg ?ho ?hn ?hr ?_;(case ho=>rfl);(case hg=>rfl);(case hn=>rfl);(case hr=>first| (go_simp;done)| (go_simp;rfl));intro w59 hw;have hg:wr.grownBy w59 (some go55):=(by rw[hw];exact HP58.2);have hp_:Kd.R Kd.bool 4 w59 w.heap.size (fun k_=>some k_≠(.slice (some ad124) t109.length co57:Value).ownBlock) (.slice (some ⟨go55,0,none⟩) x7_2.length co56) y125:=(by rw[hw,Ny125.o];exact HP58.1);clear HP58;replace HO_7:=q_ (hp_);replace HO_8:=q_ (Kd.R_after (v:=(.slice (some ⟨go55,0,none⟩) x7_2.length co56)) (v1:=(.slice (some ⟨go55,0,none⟩) x7_2.length co56)) (ok:=(fun _=>True)) (mR_ HO_8 (fun _ hk=>⟨trivial,hk⟩)) hg (.inl rfl));replace HB:=q_ ((by rw[hw];exact below_set (HB.o) GB55.out:Below w.heap.size w w59));clear hg hw hp_))
     go_roundg k2
     case measure=>have:=HJ3.o;have:=HK2.o;omega
     case rel=>exact⟨(y125),(wrap64 (x9_2+1)),rs_,H',⟨by have:=HJ3.o;have:=HK2.o;omega⟩,⟨ra_ HO_7.o⟩,⟨mR_ HO_8 (fun _ hk=>hk.2)⟩,⟨be_ HB.o⟩⟩
def spec_Without.f(k:Nat)(l0:List (S163))(l1:List (S163)):Option ((List (S163))):=(spec_l1Both.f k l0 l1 2).bind fun t101=>(some t101)
theorem spec_Without.calls(k:Nat)(A0:Option Addr)(c0:Nat)(l0:List (S163))(A1:Option Addr)(c1:Nat)(l1:List (S163))(r:List (S163))(w:World)(hr0:Kd.C k163 w A0 l0.length l0)(hc0:l0.length≤c0)(hr1:Kd.C k163 w A1 l1.length l1)(hc1:l1.length≤c1)(h:spec_Without.f k l0 l1=some r):
  Calls Try.prog 155 #[.slice A0 l0.length c0, .slice A1 l1.length c1] w fun e w'=>∃v0_:Value,e= .returned (v0_)∧Kd.R k163 163 w' w.heap.size (fun _=>True) v0_ r∧Below w.heap.size w w':=by
 have HR0:=q_ hr0;have HC0:=q_ hc0;clear hr0 hc0;have HR1:=q_ hr1;have HC1:=q_ hc1;clear hr1 hc1;have HB:=q_ (Below.refl w.heap.size w);have H:((spec_l1Both.f k l0 l1 2).bind fun t101=>(some t101))=some r:=h;clear h;obtain⟨t101,A3,H⟩:=ob_ H;obtain rfl:=Option.some.inj H;go_enter Try.func155,Try.ntmps155
 go_wp2_with(((with_reducible refine gate_callee (f:=156) rfl ?_);refine gl_ (some 7) rfl rfl Try.func156 #[.slice A0 l0.length c0, .slice A1 l1.length c1, .int .i64 2] ?_;(with_reducible refine(spec_l1Both.calls k _ _ l0 _ _ l1 2 t101 _ ?side1 ?side2 ?side3 ?side4 A3.o).mono ?_);(case side1=>exact HR0.o);(case side2=>exact HC0.o);(case side3=>exact HR1.o);(case side4=>exact HC1.o);rintro e w4 ⟨v102,rfl,ho0,hb⟩;refine⟨_,rfl,?_⟩;have HO103:=q_ (Kd.R_lower ho0 (below_size (be_ HB.o)));replace HB:=sb_ HB hb;clear hb ho0))
 go_ret
 exact⟨_,rt_,ra_ HO103.o,be_ HB.o⟩
def spec_Others.f(k:Nat)(l0:List (S163)):Option ((List (S163))):=(spec_ClassOk.f k l0).bind fun t101=>(if t101=true then((spec_Without.f k (([(⟨0,255⟩:S163)]:List (S163))) l0).bind fun t105=>(some t105))else(some (([]:List (S163)))))
theorem spec_Others.calls(k:Nat)(A0:Option Addr)(c0:Nat)(l0:List (S163))(r:List (S163))(w:World)(hr0:Kd.C k163 w A0 l0.length l0)(hc0:l0.length≤c0)(h:spec_Others.f k l0=some r):
  Calls Try.prog 152 #[.slice A0 l0.length c0] w fun e w'=>∃v0_:Value,e= .returned (v0_)∧Kd.R k163 163 w' w.heap.size (fun _=>True) v0_ r∧Below w.heap.size w w':=by
 have hu163:=Try.underlying163;have HR0:=q_ hr0;have HC0:=q_ hc0;clear hr0 hc0;have HB:=q_ (Below.refl w.heap.size w);have H:((spec_ClassOk.f k l0).bind fun t101=>(if t101=true then((spec_Without.f k (([(⟨0,255⟩:S163)]:List (S163))) l0).bind fun t105=>(some t105))else(some (([]:List (S163))))))=some r:=h;clear h;obtain⟨t101,A2,H⟩:=ob_ H;by_cases c3:t101=true;rotate_left
 ·replace c3:=Bool.eq_false_iff.mpr c3;subst c3;rw[if_neg nft_]at H;generalize hy108:([]:List (S163))=y108 at H;have Ny108:=q_ hy108.symm;clear hy108;obtain rfl:=Option.some.inj H;go_enter Try.func152,Try.ntmps152
  go_wp2_with(first| ((with_reducible refine gate_callee (f:=116) rfl ?_);refine gl_ (some 4) rfl rfl Try.func116 #[.slice A0 l0.length c0] ?_;(with_reducible refine(spec_ClassOk.calls k _ _ l0 false _ ?side1 ?side2 A2.o).mono ?_);(case side1=>exact HR0.o);(case side2=>exact HC0.o);rintro e w10 ⟨rfl,hb⟩;refine⟨_,rfl,?_⟩;replace HB:=sb_ HB hb;clear hb)| ((with_reducible refine gate_dst (N:=6) rfl ?_);refine Kd.R_lit k163 _ 163 ?hg (N:=6) ?hd (xs:=([]:List (S163))) (inner:=[]) (ok:=fun _=>True) (okp:=fun _=>True) ?hr ?hp (fun _ hk=>hk) trivial (Below.refl _ _) (Nat.le_refl _) (by simp) ?_;(case hd=>rfl);(case hg=>rfl);(case hr=>first| (go_simp;done)| (go_simp;rfl));(case hp=>exact(Reps.none _ _));intro v109 w11 ho12 hb hg_ hnew_;clear hg_ hnew_;(rw[←Ny108.o]at ho12);have HO110:=q_ (Kd.R_lower ho12 (below_size (be_ HB.o)));replace HB:=sb_ HB hb;clear hb ho12))
  go_ret
  exact⟨_,rt_,ra_ HO110.o,be_ HB.o⟩
 subst c3;rw[if_pos rfl]at H;generalize hy102:([(⟨0,255⟩:S163)]:List (S163))=y102 at H;have Ny102:=q_ hy102.symm;clear hy102;obtain⟨t105,A4,H⟩:=ob_ H;obtain rfl:=Option.some.inj H;go_enter Try.func152,Try.ntmps152
 go_wp2_with(first| ((with_reducible refine gate_callee (f:=116) rfl ?_);refine gl_ (some 4) rfl rfl Try.func116 #[.slice A0 l0.length c0] ?_;(with_reducible refine(spec_ClassOk.calls k _ _ l0 true _ ?side1 ?side2 A2.o).mono ?_);(case side1=>exact HR0.o);(case side2=>exact HC0.o);rintro e w5 ⟨rfl,hb⟩;refine⟨_,rfl,?_⟩;replace HB:=sb_ HB hb;clear hb)| ((with_reducible refine gate_dst (N:=8) rfl ?_);refine Kd.R_lit k163 _ 163 ?hg (N:=8) ?hd (xs:=([(⟨0,255⟩:S163)]:List (S163))) (inner:=[.int .i64 0, .int .i64 255]) (ok:=fun _=>True) (okp:=fun _=>True) ?hr ?hp (fun _ hk=>hk) trivial (Below.refl _ _) (Nat.le_refl _) (by simp) ?_;(case hd=>rfl);(case hg=>rfl);(case hr=>first| (go_simp;done)| (go_simp;rfl));(case hp=>exact(Reps.c2 (show Kd.M k163 _ _ _ (⟨0,255⟩:S163) [.int .i64 0, .int .i64 255]from(k163_mkM _ _ _ (⟨0,255⟩:S163))) (Reps.none _ _)));intro v103 w6 ho7 hb hg_ hnew_;clear hg_ hnew_;(rw[←Ny102.o]at ho7);have HO104:=q_ (Kd.R_lower ho7 (below_size (be_ HB.o)));replace HB:=sb_ HB hb;clear hb ho7;obtain⟨Ao8,co8,eo8⟩:=Kd.R_slice HO104.o;subst eo8)| ((with_reducible refine gate_callee (f:=155) rfl ?_);refine gl_ (some 10) rfl rfl Try.func155 #[.slice Ao8 y102.length co8, .slice A0 l0.length c0] ?_;(with_reducible refine(spec_Without.calls k _ _ y102 _ _ l0 t105 _ ?side1 ?side2 ?side3 ?side4 A4.o).mono ?_);(case side1=>exact ca_ (Kd.R_reads' HO104.o).2.2);(case side2=>exact(Kd.R_reads' HO104.o).2.1);(case side3=>exact Kd.C_below HR0.o (be_ HB.o));(case side4=>exact HC0.o);rintro e w9 ⟨v106,rfl,ho0,hb⟩;refine⟨_,rfl,?_⟩;have HO107:=q_ (Kd.R_lower (Kd.R_new' ho0 (Kd.R_lt (ra_ HO104.o))) (below_size (be_ HB.o)));replace HO104:=eR_ HO104 (Kd.R_base ho0) hb;replace HB:=sb_ HB hb;clear hb ho0))
 go_ret
 exact⟨_,rt_,by(with_reducible repeat(first|apply Kd.R_alloc|apply Kd.R_drewN|apply Kd.R_drew));exact Kd.R_mono HO107.o (fun _ hk=>trivial),be_ HB.o⟩
end Go.Proofs.Ytlecpdpdcocibaa.P
namespace Go.Proofs.Ytlecpdpdcocibaa.P
open Go.RowKit Go.Proofs.YtlecpdpdcocibaaW.PrintWords Go.Proofs.YtlecpdpdcocibaaW.PrintLast Go.Proofs.YtlecpdpdcocibaaW.PrintMore
set_option linter.unusedVariables false
set_option linter.unusedSimpArgs false
def opG(k:Nat)(b:List Int)(p:Int)(deep:Int):Option (Int × Int):=
  (spec_l1Rd_near.f k b p 3 8).bind fun t1=>(if deep=0 then some (true,t1.2)else spec_l1Rd_once.f b t1.2 3).bind fun t2=>
    if t2.1=true then(spec_l1Rd_once.f b t2.2 12).bind fun t3=>some (if t3.1=true then 1 else 2,t3.2)else some (t1.1,t2.2)
def strsG:List ByteArray:=[⟨#[97]⟩,⟨#[98]⟩,⟨#[99]⟩,⟨#[97,98]⟩,⟨#[97,98,99]⟩,⟨#[120]⟩,⟨#[10]⟩,⟨#[45]⟩,⟨#[122,57]⟩]
def setG(k:Nat)(b:List Int)(p:Int):Option (List S163 × Int):=
  (spec_l1Rd_below.f b p 9).bind fun t1=>if 0≤t1.1∧t1.1<9 then(spec_ClassOf.f k (strsG.getD t1.1.toNat ⟨#[]⟩)).bind fun s0=>(spec_l1Rd_once.f b t1.2 5).bind fun t2=>
    (if t2.1=true then(spec_l1Rd_class.f k b t2.2).bind fun t3=>some (if 0<t3.1.length then t3.1 else s0,t3.2)else some (s0,t2.2)).bind fun t4=>
      (spec_l1Rd_once.f b t4.2 16).bind fun t5=>if t5.1=true then(spec_Others.f k t4.1).bind fun s1=>some (s1,t5.2)else some (t4.1,t5.2)else none
def minG(b:List Int)(p:Int)(op:Int):Option (Int × Int × Int):=
  if op=8 then(spec_l1Rd_below.f b p 3).bind fun t1=>(spec_l1Rd_below.f b t1.2 3).bind fun t2=>
    (if wrap64 (t1.1+t2.1)=0 then some (true,t2.2)else spec_l1Rd_once.f b t2.2 4).bind fun t3=>(spec_l1Rd_once.f b t3.2 16).bind fun t4=>
      some (t1.1,if t4.1=true then 30 else if t3.1=true then -1 else wrap64 (t1.1+t2.1),t4.2)
  else some (0,0,p)
mutual
def growF:Nat→List Int→Int→List S196→Int→Option (List S196 × Int)
 |0,_,_,_,_=>none
 | k + 1,b,p,ns,deep=>if ns.length≤100000 then(opG k b p deep).bind fun t1=>
     if t1.1=2 then(setG k b t1.2).bind fun t2=>some (ns++ [⟨2,t2.1,[],0,0⟩],t2.2)
     else kidsF k b t1.2 ns [] deep t1.1 0 else none
def kidsF:Nat→List Int→Int→List S196→List Int→Int→Int→Int→Option (List S196 × Int)
 |0,_,_,_,_,_,_,_=>none
 | k + 1,b,p,ns,kids,deep,op,q=>if ns.length≤100000∧kids.length≤100000 then(spec_l3Kids.f k op).bind fun m=>
     if q<m then(growF k b p ns (wrap64 (deep-1))).bind fun t=>kidsF k b t.2 t.1 (kids++ [wrap64 ((t.1.length:Int)-1)]) deep op (wrap64 (q+1))
     else(minG b p op).bind fun t=>some (ns++ [⟨op,[],kids,t.1,t.2.1⟩],t.2.2)else none
end
def rxF(k:Nat)(b:List Int)(p:Int)(deep:Int):Option (List S196 × Int):=
 (growF k b p [] deep).bind fun t=>(spec_RxOk.f k t.1).bind fun ok=>if ok=true then some (t.1,t.2)else(spec_ClassOf.f k ⟨#[97]⟩).bind fun s=>some ([⟨2,s,[],0,0⟩],t.2)
end Go.Proofs.Ytlecpdpdcocibaa.P
namespace Go.Proofs.Ytlecpdpdcocibaa.P
open Go.RowKit Go.Proofs.YtlecpdpdcocibaaW.PrintWords Go.Proofs.YtlecpdpdcocibaaW.PrintLast Go.Proofs.YtlecpdpdcocibaaW.PrintMore Go.Proofs.YtlecpdpdcocibaaEv
set_option linter.unusedVariables false
set_option linter.unusedSimpArgs false
theorem infoRNode_:(Try.prog.info? 196).map (fun i=>(i.zero,i.size,i.bytes))=some (some (.agg #[.int .i64 0, .slice none 0 0, .slice none 0 0, .int .i64 0, .int .i64 0]),5,72):=by kernel_rfl
structure Gst (w0 w wc:World) (g:Nat) (b:List Int) (p:Int) (base:Nat) (ok:Nat→Prop) (v v1:Value) (ns:List S196):Prop where
 I:IsS149 w0 wc g b p
 B:Below w0.heap.size w0 wc
 K:KeepBut w wc g v.ownBlock
 R:Kd.R k196 196 wc base ok v1 ns
 S:v1.ownBlock=v.ownBlock∨∃c,v1.ownBlock=some c∧w.heap.size≤c
theorem keep_any{w w':World}{g:Nat}(h:KeepBut w w' g none)(row:Option Nat):KeepBut w w' g row:=⟨h.1,fun i hi hg _=>h.2 i hi hg (by simp)⟩
section
variable {w0 w wc w':World} {g g8 base:Nat} {b:List Int} {p p':Int} {ok ok':Nat→Prop} {v v1:Value} {ns:List S196}
theorem Gst.call(h:Gst w0 w wc g b p base ok v v1 ns)(hi:IsS149 w0 w' g b p')(hb:Below w0.heap.size w0 w')(hk:KeepBut wc w' g none):Gst w0 w w' g b p' base ok v v1 ns:=
 ⟨hi,hb,h.K.trans (keep_any hk _) (.inl rfl),Kd.R_mono (Kd.R_keep (IsS149.apart h.I h.R (by decide)) hk (fun _ h=>h.2)) (fun _ h=>h.1),h.S⟩
theorem Gst.below(h:Gst w0 w wc g b p base ok v v1 ns)(hb:Below wc.heap.size wc w'):Gst w0 w w' g b p base ok v v1 ns:=
 ⟨h.I.below hb,below_step h.B hb,h.K.trans (keep_any (KeepBut.of_below hb g none) _) (.inl rfl),Kd.R_below h.R hb,h.S⟩
theorem Gst.far(h:Gst w0 w wc g b p base ok v v1 ns)(h8g:g≠g8)(h8w:w.heap.size≤g8)(hw:w0.heap.size≤w.heap.size)(hok:∀k,ok k→k≠g8)(j:Nat)(u:Value):Gst w0 w (wc.setCell ⟨g8,j,none⟩ u) g b p base ok v v1 ns:=
 ⟨h.I.far h8g _,below_set h.B (Nat.le_trans hw h8w),keep_far h.K h8w _,Kd.R_far h.R hok _,h.S⟩
theorem Gst.mono(h:Gst w0 w wc g b p base ok v v1 ns)(hok:∀k,ok k→ok' k):Gst w0 w wc g b p base ok' v v1 ns:=
 ⟨h.I,h.B,h.K,Kd.R_mono h.R hok,h.S⟩
theorem Gst.born(h:Gst w0 w wc g b p base ok v v1 ns)(hg:g8=wc.heap.size):Gst w0 w wc g b p base (fun k=>ok k∧k≠g8) v v1 ns:=
 ⟨h.I,h.B,h.K,Kd.R_mono (Kd.R_bound h.R) (fun k hk=>⟨hk.1,by have:=hk.2.2.1;omega⟩),h.S⟩
theorem Gst.grown{v2:Value}{ns2:List S196}(h:Gst w0 w wc g b p base ok v v1 ns)(ho:Kd.R k196 196 w' base ok' v2 ns2)(hg:wc.grownBy w' v1.ownBlock)(hat:v2.ownBlock=v1.ownBlock∨∃c,v2.ownBlock=some c∧wc.heap.size≤c)(hb:w0.heap.size≤base):Gst w0 w w' g b p base ok' v v2 ns2:=
 ⟨h.I.grown hg (IsS149.own_ne h.I h.R (by decide)),h.B.grown hg h.B.size (fun k hk=>Nat.le_trans hb (Kd.R_base h.R k hk)),h.K.trans (KeepBut.of_grown hg g) h.S,ho,by
   rcases hat with e| ⟨c,e,hc⟩
   ·rw[e]
    exact h.S
   ·exact .inr ⟨c,e,Nat.le_trans h.K.1 hc⟩⟩
theorem Gst.then{v2:Value}{ns2:List S196}(h:Gst w0 w wc g b p base ok v v1 ns)(h2:Gst w0 wc w' g b p' base ok' v1 v2 ns2):Gst w0 w w' g b p' base ok' v v2 ns2:=
 ⟨h2.I,h2.B,h.K.trans h2.K h.S,h2.R,by
   rcases h2.S with e| ⟨c,e,hc⟩
   ·rw[e]
    exact h.S
   ·exact .inr ⟨c,e,Nat.le_trans h.K.1 hc⟩⟩
theorem Gst.row{α:Type}{d:Kd α}{e:Nat}{x:Value}{xs:List α}{cells:Array Value}{t:TypeId}(h:Gst w0 w wc g b p base ok v v1 ns)(h8:wc.heap[g8]? =some (.cells cells t (0,0)))(hO:Kd.R d e w' wc.heap.size (fun _=>True) x xs):Kd.R d e w' w.heap.size (fun k=>k≠g8∧some k≠v1.ownBlock) x xs:=
 Kd.R_lower (Kd.R_mono (Kd.R_bound hO) (fun k hk=>⟨fun e=>by have:=blk_lt h8;have:=hk.2.1;omega,fun e=>by have:=Kd.R_lt h.R k e.symm;have:=hk.2.1;omega⟩)) (keep_size h.K)
theorem Gst.rowcall{α:Type}{d:Kd α}{e base2:Nat}{ok2:Nat→Prop}{x:Value}{xs:List α}(h:Gst w0 w wc g b p base ok v v1 ns)(hO:Kd.R d e wc base2 ok2 x xs)(hk:KeepBut wc w' g none)(ht:∀q,q∈e :: d.E→q≠149):Kd.R d e w' base2 ok2 x xs:=
 Kd.R_mono (Kd.R_keep (IsS149.apart h.I hO ht) hk (fun _ h=>h.2)) (fun _ h=>h.1)
theorem Gst.other{α:Type}{d:Kd α}{e base2:Nat}{ok2:Nat→Prop}{x x2:Value}{xs:List α}(h:Gst w0 w wc g b p base (fun k=>ok k∧some k≠x.ownBlock) v v1 ns)(hO:Kd.R d e wc base2 ok2 x xs)(he:e≠149)(hg:wc.grownBy w' x.ownBlock)(hat:x2.ownBlock=x.ownBlock∨∃c,x2.ownBlock=some c∧wc.heap.size≤c)(hb:w.heap.size≤base2)(hw:w0.heap.size≤w.heap.size):Gst w0 w w' g b p base (fun k=>ok k∧some k≠x2.ownBlock) v v1 ns:=
 ⟨h.I.grown hg (IsS149.own_ne h.I hO he),h.B.grown hg h.B.size (fun k hk=>Nat.le_trans hw (Nat.le_trans hb (Kd.R_base hO k hk))),by
   cases hx:x.ownBlock with
   |none=>rw[hx]at hg;exact h.K.trans (keep_any (KeepBut.of_grown hg g) _) (.inl rfl)
   |some c=>rw[hx]at hg;exact h.K.trans (KeepBut.of_grown hg g) (.inr ⟨c,rfl,Nat.le_trans hb (Kd.R_base hO c hx)⟩),by
   refine Kd.R_mono (Kd.R_grown (Kd.R_bound h.R) hg (fun k hk=>hk.1.2)) (fun k hk=>⟨hk.1.1,?_⟩);rcases hat with e2| ⟨c,e2,hc⟩
   ·rw[e2];exact hk.1.2
   ·rw[e2];intro e3;injection e3 with e3;have:=hk.2.2.1;omega,h.S⟩
theorem R_rec{α:Type}{d:Kd α}{e base2 t2:Nat}{ok2:Nat→Prop}{row:Option Nat}{x:Value}{xs:List α}(hI:IsS149 w0 wc g b p)(hO:Kd.R d e wc base2 ok2 x xs)(hk:KeepBut wc w' g row)(hr:∀k,row=some k→∃cells,wc.heap[k]? =some (.cells cells t2 (0,0)))(ht:∀q,q∈e :: d.E→q≠149)(ht2:∀q,q∈e :: d.E→q≠t2):Kd.R d e w' base2 ok2 x xs:=by
 have h1:=IsS149.apart hI hO ht;cases row with
 |none=>exact Kd.R_mono (Kd.R_keep h1 hk (fun _ h=>h.2)) (fun _ h=>h.1)
 | some c=>
   obtain⟨cells,hc⟩:=hr c rfl;exact Kd.R_mono (Kd.R_step (Kd.R_types h1 hc ht2) (fun k h hlt=>hk.2 k hlt h.1.2 (by intro e;injection e with e;exact h.2 e))) (fun _ h=>h.1.1)
end
theorem grow_hand:∀(k:Nat) (g:Nat) (b:List Int) (p:Int) (ns:List S196) (deep:Int) (ns':List S196) (p':Int) (v:Value) (base:Nat) (ok:Nat→Prop) (w0 w:World) (hI:IsS149 w0 w g b p) (hB:Below w0.heap.size w0 w) (hN:Kd.R k196 196 w base ok v ns) (hb1:w0.heap.size≤base) (hb2:base≤w.heap.size) (hok:∀k,w.heap.size≤k→ok k) (h:growF k b p ns deep=some (ns',p')),
    Calls Try.prog 140 #[.pointer (some ⟨g,0,none⟩),v, .int .i64 deep] w fun e w'=>∃v1:Value,e= .returned v1∧Gst w0 w w' g b p' base ok v v1 ns':=by
  intro k
  induction k using Nat.strongRecOn with
  |ind k ih=>
  intro g b p ns deep ns' p' v base ok w0 w hI hB hN hb1 hb2 hok h;cases k with
  |zero=>exact absurd h (by simp[growF])
  |succ k=>
  rw[growF]at h;by_cases hlen:ns.length≤100000;rotate_left
  ·rw[if_neg hlen]at h
   exact absurd h (by simp)
  rw[if_pos hlen]at h;obtain⟨⟨op,p1⟩,E0,H⟩:=ob_ h;replace H:=q_ H;clear h;have HG:J0 (Gst w0 w w g b p base ok v v ns):=⟨⟨hI,hB,KeepBut.refl _ _ _,hN, .inl rfl⟩⟩;have HB1:=q_ hb1;have HB2:=q_ hb2;have HOK:=q_ hok;have HLEN:=q_ hlen;have IH:=q_ ih;have HW0:J0 (w0.heap.size≤w.heap.size):=⟨Nat.le_trans hb1 hb2⟩;clear hI hB hN hb1 hb2 hok hlen ih;obtain⟨Av,cv,rfl⟩:=Kd.R_slice HG.o.R;obtain⟨⟨o1,q1⟩,E1,E2⟩:=ob_ E0.o;obtain⟨⟨t2,q2⟩,EA,E2⟩:=ob_ E2;replace E2:=q_ E2;clear E0;go_enter Try.func140,Try.ntmps140;go_upto_region 2 with(go_at_call 108;(with_reducible refine(spec_l1Rd_near.calls k g b p 3 8 o1 q1 w0 _ HG.o.I HG.o.B E1.o).mono ?_);rintro e w2 ⟨rfl,hi,hb,hk⟩;replace HG:=q_ (HG.o.call hi hb hk);clear hi hb hk)
  go_cut [18] (fun v18 wc=>v18= .bool t2∧J0 (Gst w0 w wc g b q2 base ok (.slice Av ns.length cv) (.slice Av ns.length cv) ns))
  case first=>
   have H2:=EA.o;clear EA E1 E2;by_cases hd:deep=0
   ·rw[if_pos hd]at H2
    have hdb:(deep==0)=true:=beq_iff_eq.mpr hd;clear hd;obtain⟨rfl,rfl⟩:true=t2∧q1=q2:=by simpa using H2
    go_wp2;go_meet
    case rel=>exact⟨rfl,HG⟩
   ·rw[if_neg hd]at H2
    have hdb:(deep==0)=false:=beq_eq_false_iff_ne.mpr hd;clear hd;replace H2:=q_ H2
    go_wp2_with(go_at_call 55;(with_reducible refine(spec_l1Rd_once.calls g b q1 3 t2 q2 w0 _ HG.o.I HG.o.B H2.o).mono ?_);rintro e w2 ⟨rfl,hi,hb,hk⟩;replace HG:=q_ (HG.o.call hi hb hk);clear hi hb hk)
    go_meet
    case rel=>exact⟨rfl,HG⟩
  clear EA E1 HG;obtain⟨rfl,HG⟩:=hcut
  go_upto_if 18 with fail
  go_cut [7] (fun v7 wc=>v7= .int .i64 op∧J0 (Gst w0 w wc g b p1 base ok (.slice Av ns.length cv) (.slice Av ns.length cv) ns))
  case first=>
    have H2:=E2.o;clear E2;cases t2
    ·obtain⟨rfl,rfl⟩:o1=op∧q2=p1:=by simpa using H2
     clear H2;go_wp2;go_meet
     case rel=>exact⟨rfl,HG⟩
    · replace H2:(spec_l1Rd_once.f b q2 12).bind (fun t3=>some (if t3.1=true then 1 else 2,t3.2))=some (op,p1):=H2
      obtain⟨⟨t3,q3⟩,E3,H3⟩:=ob_ H2;clear H2;cases t3
      · obtain⟨rfl,rfl⟩:(2:Int)=op∧q3=p1:=by simpa using H3
        clear H3
        go_wp2_with(go_at_call 55;(with_reducible refine(spec_l1Rd_once.calls g b q2 12 false q3 w0 _ HG.o.I HG.o.B E3.o).mono ?_);rintro e w2 ⟨rfl,hi,hb,hk⟩;replace HG:=q_ (HG.o.call hi hb hk);clear hi hb hk)
        go_meet
        case rel=>exact⟨rfl,HG⟩
      · obtain⟨rfl,rfl⟩:(1:Int)=op∧q3=p1:=by simpa using H3
        clear H3
        go_wp2_with(go_at_call 55;(with_reducible refine(spec_l1Rd_once.calls g b q2 12 true q3 w0 _ HG.o.I HG.o.B E3.o).mono ?_);rintro e w2 ⟨rfl,hi,hb,hk⟩;replace HG:=q_ (HG.o.call hi hb hk);clear hi hb hk)
        go_meet
        case rel=>exact⟨rfl,HG⟩
  clear E2 HG;obtain⟨rfl,HG⟩:=hcut;have T0:J0 True:=⟨trivial⟩;go_upto_region 7 with((with_reducible refine gate_dst (N:=8) rfl ?_);clear T0;refine bx_ 8 #[.int .i64 0, .slice none 0 0, .slice none 0 0, .int .i64 0, .int .i64 0] 196 ?_;intro g8 hg w8 hbox hbx;have B8:=q_ hbox;have N8:J0 (g8≠g):=⟨by rw[hg];exact Nat.ne_of_gt (IsS149.lt HG.o.I)⟩;have G8:J0 (w.heap.size≤g8):=⟨by rw[hg];exact keep_size HG.o.K⟩;replace HG:=q_ ((HG.o.born hg).below hbx);clear hbx hbox hg;obtain⟨hy0,hy1,hy2,hy3,hy4,hf0,hf1,hf2,hf3,hf4⟩:=d5_ B8)
  have B8b:=q_ (blk_put (cs':=#[.int .i64 op, .slice none 0 0, .slice none 0 0, .int .i64 0, .int .i64 0]) (blk_put (blk_put (blk_put (blk_put B8.o 0 (.int .i64 op) rfl) 1 (.slice none 0 0) rfl) 2 (.slice none 0 0) rfl) 3 (.int .i64 0) rfl) 4 (.int .i64 0) rfl);have HGb:=q_ (((((HG.o.far N8.o.symm G8.o HW0.o (fun _ h=>h.2) 0 (.int .i64 op)).far N8.o.symm G8.o HW0.o (fun _ h=>h.2) 1 (.slice none 0 0)).far N8.o.symm G8.o HW0.o (fun _ h=>h.2) 2 (.slice none 0 0)).far N8.o.symm G8.o HW0.o (fun _ h=>h.2) 3 (.int .i64 0)).far N8.o.symm G8.o HW0.o (fun _ h=>h.2) 4 (.int .i64 0));clear B8 HG hy0 hy1 hy2 hy3 hy4 hf0 hf1 hf2 hf3 hf4;generalize World.setCell _ ⟨g8,4,none⟩ (.int .i64 0)=w9 at B8b HGb ⊢;have B8:=B8b;have HG:=HGb;clear B8b HGb;by_cases h2:op=2
  · subst h2
    rw[if_pos rfl]at H;obtain⟨⟨st,p2⟩,ES,H⟩:=ob_ H.o;obtain⟨rfl,rfl⟩:ns++ [⟨2,st,[],0,0⟩]=ns'∧p2=p':=by simpa using H
    have HQ:=ES.o;clear ES H;unfold setG at HQ;obtain⟨⟨i9,q3⟩,EB,HQ⟩:=ob_ HQ;by_cases h9:0≤i9∧i9<9;rotate_left
    ·replace HQ:=(if_neg h9).symm.trans HQ
     exact absurd HQ (by simp)
    replace HQ:=(if_pos h9).symm.trans HQ;obtain⟨s0,EC0,HQ⟩:=ob_ HQ;obtain⟨⟨c5,q4⟩,ED,HQ⟩:=ob_ HQ;obtain⟨⟨s4,q5⟩,EF,HQ⟩:=ob_ HQ;obtain⟨⟨c16,q6⟩,EH,HI⟩:=ob_ HQ;replace HI:=q_ HI;have EC:J0 (spec_ClassOf.f k (rdOf ByteArray.empty strsG i9)=some s0):=⟨EC0.o⟩;have p9:=h9.1;have r9:i9<(strsG.length:Int):=h9.2;clear h9 HQ EC0;have T1:J0 True:=⟨trivial⟩;obtain⟨hy0,hy1,hy2,hy3,hy4,hf0,hf1,hf2,hf3,hf4⟩:=d5_ B8;go_upto_region 9 with(first
     | ((with_reducible refine gate_dst (N:=25) rfl ?_);clear T1;refine Kd.R_lit Kd.string _ 9 ?ag (N:=25) ?ad (xs:=strsG) (inner:=[.string ⟨#[97]⟩, .string ⟨#[98]⟩, .string ⟨#[99]⟩, .string ⟨#[97,98]⟩, .string ⟨#[97,98,99]⟩, .string ⟨#[120]⟩, .string ⟨#[10]⟩, .string ⟨#[45]⟩, .string ⟨#[122,57]⟩]) (ok:=fun _=>True) (okp:=fun _=>True) ?ar ?ap (fun _ hk=>hk) trivial (Below.refl _ _) (Nat.le_refl _) (by decide) ?_;(case ad=>rfl);(case ag=>rfl);(case ar=>first| (go_simp;done)| (go_simp;rfl));(case ap=>exact(Reps.one (show Kd.M Kd.string _ _ _ (⟨#[97]⟩:ByteArray) [.string ⟨#[97]⟩]from rfl) (Reps.one (show Kd.M Kd.string _ _ _ (⟨#[98]⟩:ByteArray) [.string ⟨#[98]⟩]from rfl) (Reps.one (show Kd.M Kd.string _ _ _ (⟨#[99]⟩:ByteArray) [.string ⟨#[99]⟩]from rfl) (Reps.one (show Kd.M Kd.string _ _ _ (⟨#[97,98]⟩:ByteArray) [.string ⟨#[97,98]⟩]from rfl) (Reps.one (show Kd.M Kd.string _ _ _ (⟨#[97,98,99]⟩:ByteArray) [.string ⟨#[97,98,99]⟩]from rfl) (Reps.one (show Kd.M Kd.string _ _ _ (⟨#[120]⟩:ByteArray) [.string ⟨#[120]⟩]from rfl) (Reps.one (show Kd.M Kd.string _ _ _ (⟨#[10]⟩:ByteArray) [.string ⟨#[10]⟩]from rfl) (Reps.one (show Kd.M Kd.string _ _ _ (⟨#[45]⟩:ByteArray) [.string ⟨#[45]⟩]from rfl) (Reps.one (show Kd.M Kd.string _ _ _ (⟨#[122,57]⟩:ByteArray) [.string ⟨#[122,57]⟩]from rfl) (Reps.none _ _)))))))))));intro v3 w3 ho hb hgg_ hnew_;clear hgg_ hnew_;have HO:=q_ ho;replace B8:=lb_ B8 hb;replace HG:=q_ (HG.o.below hb);clear hb ho;(try clear hy0 hy1 hy2 hy3 hy4 hf0 hf1 hf2 hf3 hf4);obtain⟨hy0,hy1,hy2,hy3,hy4,hf0,hf1,hf2,hf3,hf4⟩:=d5_ B8;skip)
     | (go_at_call 66;(with_reducible refine(spec_l1Rd_below.calls g b p1 9 i9 q3 w0 _ HG.o.I HG.o.B EB.o).mono ?_);rintro e w2 ⟨rfl,hi,hb,hk⟩;replace HO:=q_ (HG.o.rowcall HO.o hk (by decide));replace B8:=q_ (KeepBut.blk hk B8.o N8.o (by simp));replace HG:=q_ (HG.o.call hi hb hk);clear hi hb hk;obtain⟨Ao,co,rfl⟩:=Kd.R_slice HO.o;(try clear hy0 hy1 hy2 hy3 hy4 hf0 hf1 hf2 hf3 hf4);obtain⟨hy0,hy1,hy2,hy3,hy4,hf0,hf1,hf2,hf3,hf4⟩:=d5_ B8;obtain⟨adx,ex,hx⟩:=Kd.at_string (C_of_R HO.o) i9 p9 r9;cases ex;have p9b:=eq_true p9;have r9b:=eq_true r9)
     | (go_at_call 141;(with_reducible refine(spec_ClassOf.calls k (rdOf ByteArray.empty strsG i9) s0 _ EC.o).mono ?_);rintro e w4 ⟨vs,rfl,ho,hb⟩;have HS:=q_ (HG.o.row B8.o ho);replace B8:=lb_ B8 hb;replace HG:=q_ (HG.o.below hb);clear hb ho;obtain⟨As,cs_,rfl⟩:=Kd.R_slice HS.o;(try clear hy0 hy1 hy2 hy3 hy4 hf0 hf1 hf2 hf3 hf4);obtain⟨hy0,hy1,hy2,hy3,hy4,hf0,hf1,hf2,hf3,hf4⟩:=d5_ B8;skip))
    have B8b:=q_ (blk_put (cs':=#[.int .i64 2, .slice As s0.length cs_, .slice none 0 0, .int .i64 0, .int .i64 0]) B8.o 1 (.slice As s0.length cs_) rfl);have HGb:=q_ (HG.o.far N8.o.symm G8.o HW0.o (fun _ h=>h.2) 1 (.slice As s0.length cs_));have HSb:=q_ (Kd.R_far (p:=⟨g8,1,none⟩) HS.o (fun _ h=>h.1) (.slice As s0.length cs_));clear B8 HG HS HO EB EC hx p9 r9 p9b r9b hy0 hy1 hy2 hy3 hy4 hf0 hf1 hf2 hf3 hf4;generalize World.setCell _ ⟨g8,1,none⟩ (.slice As s0.length cs_)=w10 at B8b HGb HSb ⊢;have B8:=B8b;have HG:=HGb;have HS:=HSb;clear B8b HGb HSb
    go_upto_if 33 with(go_at_call 55;(with_reducible refine(spec_l1Rd_once.calls g b q3 5 c5 q4 w0 _ HG.o.I HG.o.B ED.o).mono ?_);rintro e w2 ⟨rfl,hi,hb,hk⟩;replace HS:=q_ (HG.o.rowcall HS.o hk (by decide));replace B8:=q_ (KeepBut.blk hk B8.o N8.o (by simp));replace HG:=q_ (HG.o.call hi hb hk);clear hi hb hk)
    go_cut [] (fun wc=>∃vs,J0 (wc.heap[g8]? =some (.cells #[.int .i64 2,vs, .slice none 0 0, .int .i64 0, .int .i64 0] 196 (0,0)))∧J0 (Kd.R k163 163 wc w.heap.size (fun k=>k≠g8∧some k≠(Value.slice Av ns.length cv).ownBlock) vs s4)∧J0 (Gst w0 w wc g b q5 base (fun k=>ok k∧k≠g8) (.slice Av ns.length cv) (.slice Av ns.length cv) ns))
    case first=>
      have HF:=EF.o;clear EF EH HI ED;obtain⟨hy0,hy1,hy2,hy3,hy4,hf0,hf1,hf2,hf3,hf4⟩:=d5_ B8;cases c5
      · obtain⟨rfl,rfl⟩:s0=s4∧q4=q5:=by simpa using HF
        go_wp2;go_meet
        case rel=>exact⟨_,B8,HS,HG⟩
      · obtain⟨⟨s3,q7⟩,EG,HF⟩:=ob_ HF
        by_cases h3:0<s3.length
        · obtain⟨rfl,rfl⟩:s3=s4∧q7=q5:=by simpa[h3]using HF
          have hlb:decide (0<(s3.length:Int))=true:=decide_eq_true (by omega);have hlc:decide (0<s3.length)=true:=decide_eq_true h3;clear h3 HF
          go_wp2_with(go_at_call 136;(with_reducible refine(spec_l1Rd_class.calls k g b q4 s3 q7 w0 _ HG.o.I HG.o.B EG.o).mono ?_);rintro e w5 ⟨v5,rfl,ho,hi,hb,hk⟩;have HS2:=q_ (HG.o.row B8.o ho);replace HS:=q_ (HG.o.rowcall HS.o hk (by decide));replace B8:=q_ (KeepBut.blk hk B8.o N8.o (by simp));replace HG:=q_ (HG.o.call hi hb hk);clear hi hb hk ho;obtain⟨A5,c5_,rfl⟩:=Kd.R_slice HS2.o;(try clear hy0 hy1 hy2 hy3 hy4 hf0 hf1 hf2 hf3 hf4);obtain⟨hy0,hy1,hy2,hy3,hy4,hf0,hf1,hf2,hf3,hf4⟩:=d5_ B8;skip)
          go_meet
          case rel=>exact⟨_,⟨blk_put B8.o 1 _ rfl⟩,⟨Kd.R_far (p:=⟨g8,1,none⟩) HS2.o (fun _ h=>h.1) _⟩,⟨HG.o.far N8.o.symm G8.o HW0.o (fun _ h=>h.2) 1 _⟩⟩
        · obtain⟨rfl,rfl⟩:s0=s4∧q7=q5:=by simpa[h3]using HF
          have hlb:decide (0<(s3.length:Int))=false:=decide_eq_false (by omega);have hlc:decide (0<s3.length)=false:=decide_eq_false h3;clear h3 HF
          go_wp2_with(go_at_call 136;(with_reducible refine(spec_l1Rd_class.calls k g b q4 s3 q7 w0 _ HG.o.I HG.o.B EG.o).mono ?_);rintro e w5 ⟨v5,rfl,ho,hi,hb,hk⟩;have HS2:=q_ (HG.o.row B8.o ho);replace HS:=q_ (HG.o.rowcall HS.o hk (by decide));replace B8:=q_ (KeepBut.blk hk B8.o N8.o (by simp));replace HG:=q_ (HG.o.call hi hb hk);clear hi hb hk ho;obtain⟨A5,c5_,rfl⟩:=Kd.R_slice HS2.o;(try clear hy0 hy1 hy2 hy3 hy4 hf0 hf1 hf2 hf3 hf4);obtain⟨hy0,hy1,hy2,hy3,hy4,hf0,hf1,hf2,hf3,hf4⟩:=d5_ B8;skip)
          go_meet
          case rel=>exact⟨_,B8,HS,HG⟩
    clear EF ED B8 HG HS;obtain⟨vs,B8,HS,HG⟩:=hcut;obtain⟨A4,c4_,rfl⟩:=Kd.R_slice HS.o
    go_upto_if 42 with(go_at_call 55;(with_reducible refine(spec_l1Rd_once.calls g b q5 16 c16 q6 w0 _ HG.o.I HG.o.B EH.o).mono ?_);rintro e w2 ⟨rfl,hi,hb,hk⟩;replace HS:=q_ (HG.o.rowcall HS.o hk (by decide));replace B8:=q_ (KeepBut.blk hk B8.o N8.o (by simp));replace HG:=q_ (HG.o.call hi hb hk);clear hi hb hk)
    go_cut [] (fun wc=>∃vs,J0 (wc.heap[g8]? =some (.cells #[.int .i64 2,vs, .slice none 0 0, .int .i64 0, .int .i64 0] 196 (0,0)))∧J0 (Kd.R k163 163 wc w.heap.size (fun k=>k≠g8∧some k≠(Value.slice Av ns.length cv).ownBlock) vs st)∧J0 (Gst w0 w wc g b p2 base (fun k=>ok k∧k≠g8) (.slice Av ns.length cv) (.slice Av ns.length cv) ns))
    case first=>
      have HF:=HI.o;clear EH HI;obtain⟨hy0,hy1,hy2,hy3,hy4,hf0,hf1,hf2,hf3,hf4⟩:=d5_ B8;cases c16
      · obtain⟨rfl,rfl⟩:s4=st∧q6=p2:=by simpa using HF
        go_wp2;go_meet
        case rel=>exact⟨_,B8,HS,HG⟩
      · obtain⟨s1,EO,HF⟩:=ob_ HF
        obtain⟨rfl,rfl⟩:s1=st∧q6=p2:=by simpa using HF
        go_wp2_with(go_at_call 152;(with_reducible refine(spec_Others.calls k _ _ s4 s1 _ (C_of_R HS.o) (L_of_R HS.o) EO.o).mono ?_);rintro e w6 ⟨v6,rfl,ho,hb⟩;have HS2:=q_ (HG.o.row B8.o ho);replace B8:=lb_ B8 hb;replace HG:=q_ (HG.o.below hb);clear hb ho;obtain⟨A6,c6_,rfl⟩:=Kd.R_slice HS2.o;(try clear hy0 hy1 hy2 hy3 hy4 hf0 hf1 hf2 hf3 hf4);obtain⟨hy0,hy1,hy2,hy3,hy4,hf0,hf1,hf2,hf3,hf4⟩:=d5_ B8;skip)
        go_meet
        case rel=>exact⟨_,⟨blk_put B8.o 1 _ rfl⟩,⟨Kd.R_far (p:=⟨g8,1,none⟩) HS2.o (fun _ h=>h.1) _⟩,⟨HG.o.far N8.o.symm G8.o HW0.o (fun _ h=>h.2) 1 _⟩⟩
    clear EH HI B8 HG HS;obtain⟨vs,B8,HS,HG⟩:=hcut;obtain⟨A7,c7_,rfl⟩:=Kd.R_slice HS.o;obtain⟨hy0,hy1,hy2,hy3,hy4,hf0,hf1,hf2,hf3,hf4⟩:=d5_ B8;have HV:J0 (Kd.R k163 163 _ base _ _ st):=⟨Kd.R_lower (Kd.R_mono (Kd.R_bound HS.o) (fun k hk=>(⟨⟨HOK.o k hk.2.1,hk.1.1⟩,hk.1.2⟩:(ok k∧k≠g8)∧some k≠(Value.slice Av ns.length cv).ownBlock))) HB2.o⟩
    go_wp2_with((with_reducible refine gate_builtin (b:= .append) (xs:=#[.tmp 47, .tmp 49]) rfl ?_);at_builtin;refine Kd.R_append k196 base rfl (.tmp 47) (.tmp 49) 65 196 (.agg #[.int .i64 0, .slice none 0 0, .slice none 0 0, .int .i64 0, .int .i64 0]) 72 rfl Try.underlying65 infoRNode_ rfl (by decide) (by omega) (.slice Av ns.length cv) ns (⟨2,st,[],0,0⟩:S196) [.int .i64 2,(.slice A7 st.length c7_),(.slice none 0 0), .int .i64 0, .int .i64 0] (fun k=>ok k∧k≠g8) (fun k=>(ok k∧k≠g8)∧some k≠(Value.ownBlock (.slice Av ns.length cv))) rfl rfl ?aP (fun _ hk=>hk) ?aF HG.o.R (Below.refl _ _) ?aS ?aL ?_;(case aP=>exact k196_mkM _ _ _ (⟨2,st,[],0,0⟩:S196) HV.o (Kd.R_nil _ _ _ _ _));(case aF=>exact fun k hk=>⟨HOK.o k (Nat.le_trans (keep_size HG.o.K) hk),fun e=>by have:=blk_lt B8.o;omega⟩);(case aS=>exact Nat.le_trans HB2.o (keep_size HG.o.K));(case aL=>have:=HLEN.o;omega);intro v9 w9 ho hb hgr hat;replace HG:=q_ ((HG.o.grown ho hgr hat HB1.o).mono (fun _ h=>h.1));clear ho hb hgr hat)
    go_ret
    exact⟨_,rfl,HG.o⟩
  · replace H :=q_ ((if_neg h2).symm.trans H.o)
    have hop:(op==2)=false:=beq_eq_false_iff_ne.mpr h2;clear E2 HLEN;go_wp2
    go_loopg [1,10] k (fun kq v1 v10 wr=>∃(q:Int) (ns1:List S196) (kids:List Int) (p5:Int) (vk:Value),v10= .int .i64 q∧J0 (kidsF kq b p5 ns1 kids deep op q=some (ns',p'))∧J0 (kq≤k)∧J0 (wr.heap[g8]? =some (.cells #[.int .i64 op, .slice none 0 0,vk, .int .i64 0, .int .i64 0] 196 (0,0)))∧J0 (Kd.R (Kd.int .i64) 2 wr w.heap.size (fun _=>True) vk kids)∧J0 (Gst w0 w wr g b p5 base (fun k=>(ok k∧k≠g8)∧some k≠(Value.ownBlock vk)) (.slice Av ns.length cv) v1 ns1))
    case atStart=>exact⟨0,ns,[],p1, .slice none 0 0,rs_,H,⟨Nat.le_refl _⟩,B8,⟨Kd.R_nil _ _ _ _ _⟩,⟨HG.o.mono (fun k h=>⟨h,by simp[Value.ownBlock]⟩)⟩⟩
    case round =>
      clear H B8 HG;obtain⟨q,ns1,kids,p5,vk,rfl,H,HKQ,B8,HK,HG⟩:=hrel;obtain⟨A1,c1,rfl⟩:=Kd.R_slice HG.o.R;obtain⟨Ak,ck,rfl⟩:=Kd.R_slice HK.o;cases gk with
      |zero=>exact absurd H.o (by simp[kidsF])
      |succ k1=>
      have HQ:=H.o;clear H;rw[kidsF]at HQ;by_cases hl:ns1.length≤100000∧kids.length≤100000;rotate_left
      · replace HQ:=(if_neg hl).symm.trans HQ
        exact absurd HQ (by simp)
      replace HQ:=(if_pos hl).symm.trans HQ;have HL:=q_ hl;obtain⟨m,EK,HR⟩:=ob_ HQ;clear HQ hl;obtain⟨hy0,hy1,hy2,hy3,hy4,hf0,hf1,hf2,hf3,hf4⟩:=d5_ B8;by_cases hq:q<m
      · replace HR:=(if_pos hq).symm.trans HR
        obtain⟨⟨ns2,p6⟩,EG,HT⟩:=ob_ HR;replace HT:=q_ HT;clear HR;have hqb:decide (q<m)=true:=decide_eq_true hq;clear hq
        go_wp2_with(first| (go_at_call 153;(with_reducible refine(spec_l3Kids.calls k1 op m _ EK.o).mono ?_);rintro e w6 ⟨rfl,hd⟩;have hb:=below_drawn hd;replace HK:=q_ (Kd.R_below HK.o hb);replace B8:=lb_ B8 hb;replace HG:=q_ (HG.o.below hb);clear hb hd;(try clear hy0 hy1 hy2 hy3 hy4 hf0 hf1 hf2 hf3 hf4);obtain⟨hy0,hy1,hy2,hy3,hy4,hf0,hf1,hf2,hf3,hf4⟩:=d5_ B8;skip)| (go_at_call 140;refine(IH.o k1 (by have:=HKQ.o;omega) g b p5 ns1 (wrap64 (deep-1)) ns2 p6 (.slice A1 ns1.length c1) base (fun k=>(ok k∧k≠g8)∧some k≠(Value.ownBlock (.slice Ak kids.length ck))) w0 _ HG.o.I HG.o.B HG.o.R HB1.o (Nat.le_trans HB2.o (keep_size HG.o.K)) (fun k hk=>⟨⟨HOK.o k (Nat.le_trans (keep_size HG.o.K) hk),fun e=>by have:=blk_lt B8.o;omega⟩,fun e=>by have:=Kd.R_lt HK.o k e.symm;omega⟩) EG.o).mono ?_;rintro e w7 ⟨v2,rfl,h2⟩;replace B8:=q_ (KeepBut.blk h2.K B8.o N8.o (fun e=>(HG.o.R.1 g8 e.symm).1.2 rfl));replace HK:=q_ (R_rec HG.o.I HK.o h2.K (Kd.R_typed HG.o.R) (by decide) (by decide));replace HG:=q_ (HG.o.then h2);clear h2;obtain⟨A2,c2_,rfl⟩:=Kd.R_slice HG.o.R;(try clear hy0 hy1 hy2 hy3 hy4 hf0 hf1 hf2 hf3 hf4);obtain⟨hy0,hy1,hy2,hy3,hy4,hf0,hf1,hf2,hf3,hf4⟩:=d5_ B8;skip)| ((with_reducible refine gate_builtin (b:= .append) (xs:=#[.tmp 63, .tmp 67]) rfl ?_);at_builtin;refine Kd.R_append (Kd.int .i64) w.heap.size rfl (.tmp 63) (.tmp 67) 22 2 (.int .i64 0) 8 rfl Try.underlying22 info2 rfl (by decide) (by omega) (.slice Ak kids.length ck) kids (wrap64 ((ns2.length:Int)-1)) [.int .i64 (wrap64 ((ns2.length:Int)-1))] (fun _=>True) (fun _=>False) rfl rfl ?aP (fun _ hk=>hk.elim) ?aF HK.o (Below.refl _ _) ?aS ?aL ?_;(case aP=>exact rfl);(case aF=>exact(fun _ _=>trivial));(case aS=>exact keep_size HG.o.K);(case aL=>have:=HL.o.2;omega);intro v9 w9 ho hb hgr hat;replace B8:=q_ (blk_grown B8.o hgr (Kd.R_ne HK.o B8.o (by decide)));replace HG:=q_ (HG.o.other HK.o (by decide) hgr hat (Nat.le_refl _) HW0.o);replace HK:=q_ ho;obtain⟨A9,c9,rfl⟩:=Kd.R_slice HK.o;clear ho hb hgr hat;have hln:(kids++ [wrap64 ((ns2.length:Int)-1)]).length=kids.length+1:=(by simp);rw[hln]at HG HK ⊢;clear hln;(try clear hy0 hy1 hy2 hy3 hy4 hf0 hf1 hf2 hf3 hf4);obtain⟨hy0,hy1,hy2,hy3,hy4,hf0,hf1,hf2,hf3,hf4⟩:=d5_ B8;skip))
        go_roundg k1
        case measure=>exact Nat.lt_succ_self _
        case rel=>exact⟨wrap64 (q+1),ns2,kids++ [wrap64 ((ns2.length:Int)-1)],p6,_,rs_,HT,⟨by have:=HKQ.o;omega⟩,⟨blk_put B8.o 2 _ rfl⟩,⟨Kd.R_set HK.o B8.o (by decide) 2 _⟩,⟨HG.o.far N8.o.symm G8.o HW0.o (fun _ h=>h.1.2) 2 _⟩⟩
      · replace HR:=(if_neg hq).symm.trans HR
        obtain⟨⟨mn,mx,p7⟩,EM,HT⟩:=ob_ HR;obtain⟨rfl,rfl⟩:ns1++ [⟨op,[],kids,mn,mx⟩]=ns'∧p7=p':=by simpa using HT
        clear HR HT;have hqb:decide (q<m)=false:=decide_eq_false hq;clear hq
        go_upto_if 71 with(go_at_call 153;(with_reducible refine(spec_l3Kids.calls k1 op m _ EK.o).mono ?_);rintro e w6 ⟨rfl,hd⟩;have hb:=below_drawn hd;replace HK:=q_ (Kd.R_below HK.o hb);replace B8:=lb_ B8 hb;replace HG:=q_ (HG.o.below hb);clear hb hd;(try clear hy0 hy1 hy2 hy3 hy4 hf0 hf1 hf2 hf3 hf4);obtain⟨hy0,hy1,hy2,hy3,hy4,hf0,hf1,hf2,hf3,hf4⟩:=d5_ B8;skip)
        go_cut [] (fun wc=>J0 (wc.heap[g8]? =some (.cells #[.int .i64 op, .slice none 0 0,(.slice Ak kids.length ck), .int .i64 mn, .int .i64 mx] 196 (0,0)))∧J0 (Kd.R (Kd.int .i64) 2 wc w.heap.size (fun _=>True) (.slice Ak kids.length ck) kids)∧J0 (Gst w0 w wc g b p7 base (fun k=>(ok k∧k≠g8)∧some k≠(Value.ownBlock (.slice Ak kids.length ck))) (.slice Av ns.length cv) (.slice A1 ns1.length c1) ns1))
        case first=>
          by_cases h8:op=8;rotate_left
          · have h8b:(op==8)=false:=beq_eq_false_iff_ne.mpr h8
            obtain⟨rfl,rfl,rfl⟩:0=mn∧0=mx∧p5=p7:=by simpa[minG,h8]using EM.o
            go_wp2;go_meet
            case rel=>exact⟨B8,HK,HG⟩
          · have h8b:(op==8)=true:=beq_iff_eq.mpr h8
            have HM:=EM.o;clear EM;unfold minG at HM;replace HM:=(if_pos h8).symm.trans HM;obtain⟨⟨n1,q1⟩,EA,HM⟩:=ob_ HM;obtain⟨⟨n2,q2⟩,EB,HM⟩:=ob_ HM;obtain⟨⟨t3,q3⟩,EC,HM⟩:=ob_ HM;obtain⟨⟨t4,q4⟩,ED,HM⟩:=ob_ HM;obtain⟨rfl,rfl,rfl⟩:n1=mn∧(if t4=true then 30 else if t3=true then -1 else wrap64 (n1+n2))=mx∧q4=p7:=by simpa using HM
            clear HM h8;go_upto_region 23 with(go_at_call 66;(with_reducible refine(spec_l1Rd_below.calls g b p5 3 n1 q1 w0 _ HG.o.I HG.o.B EA.o).mono ?_);rintro e w2 ⟨rfl,hi,hb,hk⟩;replace HK:=q_ (HG.o.rowcall HK.o hk (by decide));replace B8:=q_ (KeepBut.blk hk B8.o N8.o (by simp));replace HG:=q_ (HG.o.call hi hb hk);clear hi hb hk;(try clear hy0 hy1 hy2 hy3 hy4 hf0 hf1 hf2 hf3 hf4);obtain⟨hy0,hy1,hy2,hy3,hy4,hf0,hf1,hf2,hf3,hf4⟩:=d5_ B8;skip)
            have B8b:=q_ (blk_put (cs':=#[.int .i64 op, .slice none 0 0,(.slice Ak kids.length ck), .int .i64 n1, .int .i64 0]) B8.o 3 (.int .i64 n1) rfl);have HGb:=q_ (HG.o.far N8.o.symm G8.o HW0.o (fun _ h=>h.1.2) 3 (.int .i64 n1));have HKb:=q_ (Kd.R_set HK.o B8.o (by decide) 3 (.int .i64 n1));clear B8 HG HK hy0 hy1 hy2 hy3 hy4 hf0 hf1 hf2 hf3 hf4;generalize World.setCell _ ⟨g8,3,none⟩ (.int .i64 n1)=w10 at B8b HGb HKb ⊢;have B8:=q_ (blk_drew B8b.o);have HG:=q_ (HGb.o.below (below_drew1 (Below.refl _ _)));have HK:=q_ (Kd.R_drew HKb.o);clear B8b HGb HKb
            go_wp2_with fail
            refine start_ (n:=7) (S:=fun w'=>w'.cell? ⟨g8,3,none⟩=some (.int .i64 n1)) (ds:=[6]) (bb 7 0) (by kernel_rfl) rfl rfl ((blk_cell B8.o 3).trans rfl) (fun hS=>?_);generalize World.drew _=w11 at B8 HG HK hS ⊢;refine pk_ 0 75 1 ?_;refine tk_ 1 76 3 hS ?_;refine pk_ 2 77 7 ?_;refine one_ (i:=3) (N:=some 78) (bb 7 15) rfl rfl (by kernel_rfl) (by decide) (fun K hK=>?_);refine gs_ Try.func66 #[.pointer (some ⟨g,0,none⟩), .int .i64 3] ?_
            with_reducible refine(spec_l1Rd_below.calls g b q1 3 n2 q2 w0 _ HG.o.I HG.o.B EB.o).mono ?_
            rintro e w12 ⟨rfl,hi,hb,hk⟩;refine⟨_,rfl,?_⟩;replace HK:=q_ (HG.o.rowcall HK.o hk (by decide));replace B8:=q_ (KeepBut.blk hk B8.o N8.o (by simp));replace HG:=q_ (HG.o.call hi hb hk);clear hi hb hk;refine hK.out _ _ ((blk_cell B8.o 3).trans rfl) (fun hS=>?_);clear hK K;refine no_ (some 78) ?_;refine pk_ 4 79 31 ?_;refine pk_ 5 80 63 ?_;have hf4:=blk_frozen B8.o 4;have hz4:w12.cell? ⟨g8,4,none⟩=some (.int .i64 0):=(blk_cell B8.o 4).trans rfl;refine last_ (i:=6) (N:=none) (bb 7 127) rfl rfl (by kernel_rfl) (by decide) (fun K hK=>?_);refine skip_ (w1:=?_) (by rfl) rfl ?_ ?_;rotate_left
            · go_simp
              rfl
            refine hK.out _ _ ?_;clear hK K;refine done_ (by kernel_rfl) ?_;have B8b:=q_ (blk_put (cs':=#[.int .i64 op, .slice none 0 0,(.slice Ak kids.length ck), .int .i64 n1, .int .i64 (wrap64 (n1+n2))]) B8.o 4 (.int .i64 (wrap64 (n1+n2))) rfl);have HGb:=q_ (HG.o.far N8.o.symm G8.o HW0.o (fun _ h=>h.1.2) 4 (.int .i64 (wrap64 (n1+n2))));have HKb:=q_ (Kd.R_set HK.o B8.o (by decide) 4 (.int .i64 (wrap64 (n1+n2))));clear B8 HG HK hf4 hz4 hS;generalize World.setCell _ ⟨g8,4,none⟩ (.int .i64 (wrap64 (n1+n2)))=w13 at B8b HGb HKb ⊢;have B8:=B8b;have HG:=HGb;have HK:=HKb;clear B8b HGb HKb EA EB;generalize wrap64 (n1+n2)=nn at *;obtain⟨hy0,hy1,hy2,hy3,hy4,hf0,hf1,hf2,hf3,hf4⟩:=d5_ B8;go_upto_region 24 with fail
            go_cut [87] (fun v87 wc=>v87= .bool t3∧J0 (wc.heap[g8]? =some (.cells #[.int .i64 op, .slice none 0 0,(.slice Ak kids.length ck), .int .i64 n1, .int .i64 nn] 196 (0,0)))∧J0 (Kd.R (Kd.int .i64) 2 wc w.heap.size (fun _=>True) (.slice Ak kids.length ck) kids)∧J0 (Gst w0 w wc g b q3 base (fun k=>(ok k∧k≠g8)∧some k≠(Value.ownBlock (.slice Ak kids.length ck))) (.slice Av ns.length cv) (.slice A1 ns1.length c1) ns1))
            case first=>
              have H2:=EC.o;clear EC ED;by_cases hd:nn=0
              · rw[if_pos hd]at H2
                have hdb:(nn==0)=true:=beq_iff_eq.mpr hd;clear hd;obtain⟨rfl,rfl⟩:true=t3∧q2=q3:=by simpa using H2
                go_wp2;go_meet
                case rel=>exact⟨rfl,B8,HK,HG⟩
              · rw[if_neg hd]at H2
                have hdb:(nn==0)=false:=beq_eq_false_iff_ne.mpr hd;clear hd;replace H2:=q_ H2
                go_wp2_with(go_at_call 55;(with_reducible refine(spec_l1Rd_once.calls g b q2 4 t3 q3 w0 _ HG.o.I HG.o.B H2.o).mono ?_);rintro e w2 ⟨rfl,hi,hb,hk⟩;replace HK:=q_ (HG.o.rowcall HK.o hk (by decide));replace B8:=q_ (KeepBut.blk hk B8.o N8.o (by simp));replace HG:=q_ (HG.o.call hi hb hk);clear hi hb hk;(try clear hy0 hy1 hy2 hy3 hy4 hf0 hf1 hf2 hf3 hf4);obtain⟨hy0,hy1,hy2,hy3,hy4,hf0,hf1,hf2,hf3,hf4⟩:=d5_ B8;skip)
                go_meet
                case rel=>exact⟨rfl,B8,HK,HG⟩
            clear EC B8 HG HK hy0 hy1 hy2 hy3 hy4 hf0 hf1 hf2 hf3 hf4;obtain⟨rfl,B8,HK,HG⟩:=hcut;obtain⟨hy0,hy1,hy2,hy3,hy4,hf0,hf1,hf2,hf3,hf4⟩:=d5_ B8
            go_upto_if 87 with fail
            go_cut [] (fun wc=>J0 (wc.heap[g8]? =some (.cells #[.int .i64 op, .slice none 0 0,(.slice Ak kids.length ck), .int .i64 n1, .int .i64 (if t3=true then -1 else nn)] 196 (0,0)))∧J0 (Kd.R (Kd.int .i64) 2 wc w.heap.size (fun _=>True) (.slice Ak kids.length ck) kids)∧J0 (Gst w0 w wc g b q3 base (fun k=>(ok k∧k≠g8)∧some k≠(Value.ownBlock (.slice Ak kids.length ck))) (.slice Av ns.length cv) (.slice A1 ns1.length c1) ns1))
            case first=>
              cases t3
              · go_wp2
                go_meet
                case rel=>exact⟨B8,HK,HG⟩
              · go_wp2
                go_meet
                case rel=>exact⟨⟨blk_put B8.o 4 _ rfl⟩,⟨Kd.R_set HK.o B8.o (by decide) 4 _⟩,⟨HG.o.far N8.o.symm G8.o HW0.o (fun _ h=>h.1.2) 4 _⟩⟩
            clear B8 HG HK hy0 hy1 hy2 hy3 hy4 hf0 hf1 hf2 hf3 hf4;obtain⟨B8,HK,HG⟩:=hcut;generalize(if t3=true then -1 else nn)=nm at *
            go_upto_if 90 with(go_at_call 55;(with_reducible refine(spec_l1Rd_once.calls g b q3 16 t4 q4 w0 _ HG.o.I HG.o.B ED.o).mono ?_);rintro e w2 ⟨rfl,hi,hb,hk⟩;replace HK:=q_ (HG.o.rowcall HK.o hk (by decide));replace B8:=q_ (KeepBut.blk hk B8.o N8.o (by simp));replace HG:=q_ (HG.o.call hi hb hk);clear hi hb hk;(try clear hy0 hy1 hy2 hy3 hy4 hf0 hf1 hf2 hf3 hf4);obtain⟨hy0,hy1,hy2,hy3,hy4,hf0,hf1,hf2,hf3,hf4⟩:=d5_ B8;skip)
            cases t4
            · go_wp2
              go_meet
              case rel=>exact⟨B8,HK,HG⟩
            · go_wp2
              go_meet
              case rel=>exact⟨⟨blk_put B8.o 4 _ rfl⟩,⟨Kd.R_set HK.o B8.o (by decide) 4 _⟩,⟨HG.o.far N8.o.symm G8.o HW0.o (fun _ h=>h.1.2) 4 _⟩⟩
        clear B8 HK HG EM;obtain⟨B8,HK,HG⟩:=hcut;obtain⟨hy0,hy1,hy2,hy3,hy4,hf0,hf1,hf2,hf3,hf4⟩:=d5_ B8;have HLEN:J0 (ns1.length≤100000):=⟨HL.o.1⟩;have HV:J0 (Kd.R (Kd.int .i64) 2 wc base (fun k=>(ok k∧k≠g8)∧some k≠(Value.ownBlock (.slice A1 ns1.length c1))) (.slice Ak kids.length ck) kids):=⟨by
          refine Kd.R_lower (Kd.R_mono (Kd.R_bound (Kd.R_types HK.o B8.o (by decide))) (fun k hk=>⟨⟨HOK.o k hk.2.1,hk.1.2⟩,fun e=>?_⟩)) HB2.o;obtain⟨_,_,_,t,ht,cells,hc⟩:=hk;obtain⟨cells2,hc2⟩:=Kd.R_typed HG.o.R k e.symm;rw[hc]at hc2;injection hc2 with hc2
          injection hc2 with _ hc2
          exact absurd hc2 ((by decide:∀t,t∈2 :: (Kd.int .i64).E→t≠196) t ht)⟩
        have HG1:=q_ (HG.o.mono (fun _ h=>h.1));clear HG HK;have HG:=HG1;clear HG1
        go_wp2_with((with_reducible refine gate_builtin (b:= .append) (xs:=#[.tmp 92, .tmp 94]) rfl ?_);at_builtin;refine Kd.R_append k196 base rfl (.tmp 92) (.tmp 94) 65 196 (.agg #[.int .i64 0, .slice none 0 0, .slice none 0 0, .int .i64 0, .int .i64 0]) 72 rfl Try.underlying65 infoRNode_ rfl (by decide) (by omega) (.slice A1 ns1.length c1) ns1 (⟨op,[],kids,mn,mx⟩:S196) [.int .i64 op,(.slice none 0 0),(.slice Ak kids.length ck), .int .i64 mn, .int .i64 mx] (fun k=>ok k∧k≠g8) (fun k=>(ok k∧k≠g8)∧some k≠(Value.ownBlock (.slice A1 ns1.length c1))) rfl rfl ?aP (fun _ hk=>hk) ?aF HG.o.R (Below.refl _ _) ?aS ?aL ?_;(case aP=>exact k196_mkM _ _ _ (⟨op,[],kids,mn,mx⟩:S196) (Kd.R_nil _ _ _ _ _) HV.o);(case aF=>exact fun k hk=>⟨HOK.o k (Nat.le_trans (keep_size HG.o.K) hk),fun e=>by have:=blk_lt B8.o;omega⟩);(case aS=>exact Nat.le_trans HB2.o (keep_size HG.o.K));(case aL=>have:=HLEN.o;omega);intro v9 w9 ho hb hgr hat;replace HG:=q_ ((HG.o.grown ho hgr hat HB1.o).mono (fun _ h=>h.1));clear ho hb hgr hat)
        go_ret
        exact⟨_,rfl,HG.o⟩
theorem below_of_grown{w w1:World}(h:w.grownBy w1 none):Below w.heap.size w w1:=⟨h.os,h.tape,h.output,h.size,fun i hi=>h.block i hi (by simp)⟩
theorem Gst.types{w0 w wc:World}{g g8 base:Nat}{b:List Int}{p:Int}{ok:Nat→Prop}{v v1:Value}{ns:List S196}{cells:Array Value}{t:TypeId}(h:Gst w0 w wc g b p base ok v v1 ns)(h8:wc.heap[g8]? =some (.cells cells t (0,0)))(ht:∀q,q∈196 :: k196.E→q≠t):Gst w0 w wc g b p base (fun k=>ok k∧k≠g8) v v1 ns:=
 ⟨h.I,h.B,h.K,Kd.R_types h.R h8 ht,h.S⟩
theorem Gst.far'{w0 w wc:World}{g g8 base:Nat}{b:List Int}{p:Int}{ok:Nat→Prop}{v v1:Value}{ns:List S196}{cells:Array Value}{t:TypeId}(h:Gst w0 w wc g b p base ok v v1 ns)(h8g:g≠g8)(h8w:w.heap.size≤g8)(hw:w0.heap.size≤w.heap.size)(h8:wc.heap[g8]? =some (.cells cells t (0,0)))(ht:∀q,q∈196 :: k196.E→q≠t)(j:Nat)(u:Value):Gst w0 w (wc.setCell ⟨g8,j,none⟩ u) g b p base ok v v1 ns:=
 ((h.types h8 ht).far h8g h8w hw (fun _ h=>h.2) j u).mono (fun _ h=>h.1)
theorem spec_l1Rd_rx_hand(k:Nat)(g:Nat)(b:List Int)(p:Int)(deep:Int)(r:List S196)(p':Int)(w0 w:World)(hI:IsS149 w0 w g b p)(hB:Below w0.heap.size w0 w)(h:rxF k b p deep=some (r,p')):
   Calls Try.prog 125 #[.pointer (some ⟨g,0,none⟩), .int .i64 deep] w fun e w'=>∃v0_:Value,e= .returned (.agg #[v0_])∧Kd.R k196 196 w' w.heap.size (fun _=>True) v0_ r∧IsS149 w0 w' g b p'∧Below w0.heap.size w0 w'∧KeepBut w w' g none:=by
 obtain⟨⟨ns,p1⟩,E0,H⟩:=ob_ h;obtain⟨t,E1,H⟩:=ob_ H;replace H:=q_ H;have HW0:=q_ hB.size;have HG:J0 (Gst w0 w w g b p w.heap.size (fun _=>True) (.slice none 0 0) (.slice none 0 0) []):=⟨⟨hI,hB,KeepBut.refl _ _ _,Kd.R_nil _ _ _ _ _, .inl rfl⟩⟩;clear hI hB h;have T4:J0 True:=⟨trivial⟩;have T5:J0 True:=⟨trivial⟩;have T7:J0 True:=⟨trivial⟩;go_enter Try.func125,Try.ntmps125;go_upto_region 2 with(first
  | ((with_reducible refine gate_dst (N:=4) rfl ?_);clear T4;refine bx_ 4 #[.slice none 0 0] 67 ?_;intro g4 hg w4 hbox hbx;have B4:=q_ hbox;have N4:J0 (g4≠g):=⟨by rw[hg];exact Nat.ne_of_gt (IsS149.lt HG.o.I)⟩;have G4:J0 (w.heap.size≤g4):=⟨by rw[hg];exact keep_size HG.o.K⟩;replace HG:=q_ (HG.o.below hbx);clear hbx hbox hg)
  | ((with_reducible refine gate_dst (N:=7) rfl ?_);clear T7;refine Kd.R_lit k196 _ 196 ?ag (N:=7) ?ad (xs:=([]:List S196)) (inner:=[]) (ok:=fun _=>True) (okp:=fun _=>True) ?ar ?ap (fun _ hk=>hk) trivial (Below.refl _ _) (Nat.le_refl _) (by decide) ?_;(case ad=>rfl);(case ag=>rfl);(case ar=>first| (go_simp;done)| (go_simp;rfl));(case ap=>exact Reps.none _ _);intro v3 w3 ho hb hgg_ hnew_;replace B4:=lb_ B4 hb;replace HG:=q_ (Gst.grown HG.o (Kd.R_lower ho (keep_size HG.o.K)) (grown_of_below hb _) (.inr hnew_) HW0.o);clear hb ho hgg_ hnew_;obtain⟨A3,c3,rfl⟩:=Kd.R_slice HG.o.R)
  | (go_at_call 140;refine(grow_hand k g b p [] deep ns p1 _ w.heap.size (fun _=>True) w0 _ HG.o.I HG.o.B HG.o.R HW0.o (keep_size HG.o.K) (fun _ _=>trivial) E0.o).mono ?_;rintro e w7 ⟨v2,rfl,h2⟩;replace B4:=q_ (KeepBut.blk h2.K B4.o N4.o (Kd.R_ne HG.o.R B4.o (by decide)));replace HG:=q_ (HG.o.then h2);clear h2;obtain⟨A2,c2_,rfl⟩:=Kd.R_slice HG.o.R)
  | ((with_reducible refine gate_dst (N:=5) rfl ?_);clear T5;refine bx_ 5 #[.slice none 0 0] 67 ?_;intro g5 hg w5 hbox hbx;have B5:=q_ hbox;have N5:J0 (g5≠g):=⟨by rw[hg];exact Nat.ne_of_gt (IsS149.lt HG.o.I)⟩;have G5:J0 (w.heap.size≤g5):=⟨by rw[hg];exact keep_size HG.o.K⟩;have N45:=nl_ hg B4;replace B4:=lb_ B4 hbx;replace HG:=q_ (HG.o.below hbx);clear hbx hbox hg;obtain⟨hy0,hf0⟩:=d1_ B5))
 have B5b:=q_ (blk_put (cs':=#[.slice A2 ns.length c2_]) B5.o 0 (.slice A2 ns.length c2_) rfl);have B4b:=q_ (blk_far (p:=⟨g5,0,none⟩) B4.o N45.o (.slice A2 ns.length c2_));have HGb:=q_ ((HG.o.types B5.o (by decide)).far N5.o.symm G5.o HW0.o (fun _ h=>h.2) 0 (.slice A2 ns.length c2_));replace HGb:=q_ (HGb.o.mono (ok':=fun _=>True) (fun _ _=>trivial));clear B4 B5 HG hy0 hf0;generalize World.setCell _ ⟨g5,0,none⟩ (.slice A2 ns.length c2_)=w9 at B4b B5b HGb ⊢;have B4:=B4b;have B5:=B5b;have HG:=HGb;clear B4b B5b HGb;obtain⟨hy0,hf0⟩:=d1_ B5;cases t
 ·obtain⟨s,E2,H⟩:=ob_ H.o
  obtain⟨rfl,rfl⟩: [⟨2,s,[],0,0⟩]=r∧p1=p':=by simpa using H
  clear H;have T16:J0 True:=⟨trivial⟩
  go_wp2_with(first
   | (go_at_call 133;(with_reducible refine(spec_RxOk.calls k _ _ ns false _ (C_of_R HG.o.R) (L_of_R HG.o.R) E1.o).mono ?_);rintro e w2 ⟨rfl,hb⟩;replace B4:=lb_ B4 hb;replace B5:=lb_ B5 hb;replace HG:=q_ (HG.o.below hb);clear hb)
   | (go_at_call 141;(with_reducible refine(spec_ClassOf.calls k _ s _ E2.o).mono ?_);rintro e w4 ⟨vs,rfl,ho,hb⟩;have HS:=q_ (Kd.R_lower ho (keep_size HG.o.K));replace B4:=lb_ B4 hb;replace HG:=q_ (HG.o.below hb);clear hb ho;obtain⟨As,cs_,rfl⟩:=Kd.R_slice HS.o)
   | ((with_reducible refine gate_dst (N:=16) rfl ?_);(clear T16;refine Kd.R_lit k196 w.heap.size 196 ?ag (N:=16) ?ad (xs:=([⟨2,s,[],0,0⟩]:List S196)) (inner:=[.int .i64 2, .slice As s.length cs_, .slice none 0 0, .int .i64 0, .int .i64 0]) (ok:=fun _=>True) (okp:=fun _=>True) ?ar ?ap (fun _ hk=>hk) trivial (Below.refl _ _) (keep_size HG.o.K) (by simp) ?_;(case ad=>rfl);(case ag=>rfl);(case ar=>first| (go_simp;done)| (go_simp;rfl));(case ap=>exact Reps.snoc (ps:=[]) (cs:=[]) (Reps.none _ _) (k196_mkM _ _ _ (⟨2,s,[],0,0⟩:S196) HS.o (Kd.R_nil _ _ _ _ _)) rfl);intro v5 w5 ho hbq hgg_ hnew_;have hb:=below_of_grown hgg_;have HO:=q_ ho;replace B4:=lb_ B4 hb;replace HG:=q_ (HG.o.below hb);clear hb hbq ho hgg_ hnew_;obtain⟨A6,c6,rfl⟩:=Kd.R_slice HO.o;obtain⟨hz0,hfz⟩:=d1_ B4)))
  refine bodyPost_ret (results_cell_row rfl _ _ g4 67 #[.slice A6 ([⟨2,s,[],0,0⟩]:List S196).length c6] (0,0) _ rfl (blk_put B4.o 0 _ rfl) Try.underlying67 rfl (by kernel_rfl)) rfl ?_;have HGn:=HG.o.far' N4.o.symm G4.o HW0.o B4.o (by decide) 0 (.slice A6 ([⟨2,s,[],0,0⟩]:List S196).length c6);exact⟨_,rfl,Kd.R_set HO.o B4.o (by decide) 0 _,HGn.I,HGn.B,HGn.K⟩
 ·obtain⟨rfl,rfl⟩:ns=r∧p1=p':=by simpa using H.o
  clear H
  go_wp2_with(go_at_call 133;(with_reducible refine(spec_RxOk.calls k _ _ ns true _ (C_of_R HG.o.R) (L_of_R HG.o.R) E1.o).mono ?_);rintro e w2 ⟨rfl,hb⟩;replace B4:=lb_ B4 hb;replace B5:=lb_ B5 hb;replace HG:=q_ (HG.o.below hb);clear hb;clear hy0 hf0;obtain⟨hy0,hf0⟩:=d1_ B5;obtain⟨hz0,hfz⟩:=d1_ B4)
  refine bodyPost_ret (results_cell_row rfl _ _ g4 67 #[.slice A2 ns.length c2_] (0,0) _ rfl (blk_put B4.o 0 _ rfl) Try.underlying67 rfl (by kernel_rfl)) rfl ?_;have HGn:=HG.o.far' N4.o.symm G4.o HW0.o B4.o (by decide) 0 (.slice A2 ns.length c2_);exact⟨_,rfl,HGn.R,HGn.I,HGn.B,HGn.K⟩
end Go.Proofs.Ytlecpdpdcocibaa.P
namespace Go.Proofs.Ytlecpdpdcocibaa.P
open Go.RowKit Go.Proofs.YtlecpdpdcocibaaW.PrintWords Go.Proofs.YtlecpdpdcocibaaW.PrintLast Go.Proofs.YtlecpdpdcocibaaW.PrintMore
attribute [local go_sem] max2_int min2_int max_two min_two max_three min_three max_four min_four
set_option linter.unusedVariables false
set_option linter.unusedSimpArgs false
def spec_l1Rd_rx.f(k:Nat)(s0_0:List Int)(s0_1:Int)(a1:Int):Option ((List S196) × Int):=rxF k s0_0 s0_1 a1
theorem spec_l1Rd_rx.calls(k:Nat)(g:Nat)(s0_0:List Int)(s0_1:Int)(a1:Int)(r1:List S196)(r2:Int)(w0 w:World)(hI:IsS149 w0 w g s0_0 s0_1)(hB:Below w0.heap.size w0 w)(h:spec_l1Rd_rx.f k s0_0 s0_1 a1=some (r1,r2)):
 Calls Try.prog 125 #[.pointer (some ⟨g,0,none⟩), .int .i64 a1] w fun e w'=>∃v0_:Value,e= .returned (.agg #[v0_])∧Kd.R k196 196 w' w.heap.size (fun _=>True) v0_ r1∧IsS149 w0 w' g s0_0 r2∧Below w0.heap.size w0 w'∧KeepBut w w' g none:=spec_l1Rd_rx_hand k g s0_0 s0_1 a1 r1 r2 w0 w hI hB h
def spec_l1Rd_rxs.l0:Nat→List (S67)→Int→List Int→Int→Option ((List (S67)) × Int)
 |0,_,_,_,_=>none
 |k+1,x3,x4,x1000,x1001=>if x4>0 then((spec_l1Rd_below.f x1000 x1001 3).bind fun bt106=>((spec_l1Rd_rx.f k x1000 bt106.2 (wrap64 (1+bt106.1))).bind fun bt108=>(if x3.length<5864062014805 then(spec_l1Rd_rxs.l0 k (x3++ [(⟨bt108.1⟩:S67)]) (wrap64 (x4-1)) x1000 bt108.2)else(none))))else(some (x3,x1001))
def spec_l1Rd_rxs.f(k:Nat)(s0_0:List Int)(s0_1:Int):Option ((List (S67)) × Int):=(spec_l1Rd_below.f s0_0 s0_1 (mn 4 (wrap64 (1+(wrap64 ((s0_0.length:Int) / 8)))))).bind fun bt104=>(spec_l1Rd_rxs.l0 k (([]:List (S67))) (wrap64 (1+bt104.1)) s0_0 bt104.2)
theorem spec_l1Rd_rxs.calls(k:Nat)(g:Nat)(s0_0:List Int)(s0_1:Int)(r1:List (S67))(r2:Int)(w0 w:World)(hI:IsS149 w0 w g s0_0 s0_1)(hB:Below w0.heap.size w0 w)(h:spec_l1Rd_rxs.f k s0_0 s0_1=some (r1,r2)):
  Calls Try.prog 114 #[.pointer (some ⟨g,0,none⟩)] w fun e w'=>∃v0_:Value,e= .returned (v0_)∧Kd.R k67 67 w' w.heap.size (fun _=>True) v0_ r1∧IsS149 w0 w' g s0_0 r2∧Below w0.heap.size w0 w'∧KeepBut w w' g none:=by
 have HI0:=q_ hI;have HK:=q_ (KeepBut.refl w g none);have HL:=q_ hB.size;clear hI;have HW0:=q_ hB.size;have HB:=q_ hB;clear hB;have H:((spec_l1Rd_below.f s0_0 s0_1 (mn 4 (wrap64 (1+(wrap64 ((s0_0.length:Int) / 8)))))).bind fun bt104=>(spec_l1Rd_rxs.l0 k (([]:List (S67))) (wrap64 (1+bt104.1)) s0_0 bt104.2))=some (r1,r2):=h;clear h;generalize hy101:([]:List (S67))=y101 at H;have Ny101:=q_ hy101.symm;clear hy101;obtain⟨ji2,hji2⟩:∃j_:Int,(mn 4 (wrap64 (1+(wrap64 ((s0_0.length:Int) / 8)))))=j_:=⟨_,rfl⟩;replace H:((spec_l1Rd_below.f s0_0 s0_1 (ji2)).bind fun bt104=>(spec_l1Rd_rxs.l0 k y101 (wrap64 (1+bt104.1)) s0_0 bt104.2))=some (r1,r2):=by(rw[hji2]at H;exact H)
 (try(have hji2h:ji2≤4:=by(rw[←hji2];unfold mn;(repeat' split)<;>omega)))
 (try(have hji2g:ji2≤64:=by omega))
 have hji2_:(if(wrap64 (1+(wrap64 ((s0_0.length:Int) / 8))))<4 then(wrap64 (1+(wrap64 ((s0_0.length:Int) / 8))))else 4)=ji2:=hji2;replace H:=Option.bind_eq_some_iff.mp H;obtain⟨⟨t104,t105⟩,A30,H⟩:=H;dsimp only at H;have A3:=q_ A30;clear A30;have H':=q_ H;clear H;go_enter Try.func114,Try.ntmps114
 go_wp2_with(first| ((with_reducible refine gate_dst (N:=5) rfl ?_);refine Kd.R_lit k67 _ 67 ?hg (N:=5) ?hd (xs:=([]:List (S67))) (inner:=[]) (ok:=fun _=>True) (okp:=fun _=>True) ?hr ?hp (fun _ hk=>hk) trivial (Below.refl _ _) (Nat.le_refl _) (by simp) ?_;(case hd=>rfl);(case hg=>rfl);(case hr=>first| (go_simp;done)| (go_simp;rfl));(case hp=>exact(Reps.none _ _));intro v102 w4 ho5 hb hg_ hnew_;clear hg_ hnew_;(rw[←Ny101.o]at ho5);have HO103:=q_ (Kd.R_lower ho5 (ks_ HK));replace HK:=kb_ HK hb;replace HB:=q_ (below_step (be1_ HB.o (IsS149.ge HI0.o)) hb);replace HI0:=ib_ HI0 hb;clear hb ho5;obtain⟨ASz6_0,cSz6_0,HGz6,hgz6,HSz6_0⟩:=HI0.o;have hcz6_0:=cellS149_0 HGz6;have hcz6_1:=cellS149_1 HGz6;have hfz6_1:=blk_frozen HGz6 1;clear HGz6 hgz6)| ((with_reducible refine gate_callee (f:=66) rfl ?_);refine goesL_ (some 15) rfl rfl Try.func66 (by kernel_rfl) rfl #[.pointer (some ⟨g,0,none⟩), .int .i64 ji2] rfl (by(try simp only[List.map_toArray,List.map_cons,List.map_nil]);first|done| (simp only[hji2];rfl)|rfl| (simp only[List.length_drop,List.length_take];rfl)) ?_;(with_reducible refine(spec_l1Rd_below.calls g s0_0 s0_1 ji2 t104 t105 w0 _ ?side1 ?side2 A3.o).mono ?_);(case side1=>exact si_ HI0);(case side2=>exact be1_ HB.o (IsS149.ge HI0.o));rintro e w7 ⟨rfl,hi,hb,hk⟩;refine⟨_,rfl,?_⟩;replace HO103:=q_ (Kd.R_mono (Kd.R_keep (IsS149.apart (show IsS149 w0 _ g s0_0 s0_1 from si_ HI0) (ra_ HO103.o) (by decide)) hk (fun _ h=>h.2)) (fun _ h=>h.1));replace HK:=kt_ HK hk;replace HB:=q_ (hb);replace HI0:=q_ (hi);clear hb))
 go_loopg [3,4] k (fun kq v3 v4 w'=>∃(x3_1:List (S67)) (x4_1:Int) (x1001_1:Int),v4= .int .i64 x4_1∧J0 (spec_l1Rd_rxs.l0 kq x3_1 x4_1 s0_0 x1001_1=some (r1,r2))∧J0 (kq≤k)∧J0 (Kd.R k67 67 w' w.heap.size (fun _=>True) v3 x3_1)∧J0 (IsS149 w0 w' g s0_0 x1001_1)∧J0 (KeepBut w w' g none)∧J0 (Below w0.heap.size w0 w'))
 case atStart=>exact⟨(y101),(wrap64 (1+t104)),(t105),rs_,H',⟨Nat.le_refl _⟩,⟨ra_ HO103.o⟩,⟨si_ HI0⟩,⟨kp_ HK⟩,⟨be1_ HB.o (IsS149.ge HI0.o)⟩⟩
 case round=>
  clear H';clear hcz6_0 hcz6_1 hfz6_1;obtain⟨x3_1,x4_1,x1001_1,rfl,HA,HK1,HO_3,HI0,HK,HB⟩:=hrel;cases gk with
  |zero=>exact absurd HA.o (by simp[spec_l1Rd_rxs.l0])
  | succ k1=>
   have H:=HA.o;clear HA;simp only[spec_l1Rd_rxs.l0]at H;by_cases c8:x4_1>0;rotate_left
   ·rw[if_neg c8]at H;have c8b0:decide (0<x4_1)=false:=df_ c8;clear c8;simp only[Option.some.injEq,Prod.mk.injEq]at H;obtain⟨rfl,rfl⟩:=H;go_wp2
    go_ret
    exact⟨_,by rfl,ra_ HO_3.o,si_ HI0,be1_ HB.o (IsS149.ge HI0.o),kp_ HK⟩
   rw[if_pos c8]at H;have c8b0:decide (0<x4_1)=true:=dt_ c8;clear c8;replace H:=Option.bind_eq_some_iff.mp H;obtain⟨⟨t106,t107⟩,A90,H⟩:=H;dsimp only at H;have A9:=q_ A90;clear A90;replace H:=Option.bind_eq_some_iff.mp H;obtain⟨⟨t108,t111⟩,A100,H⟩:=H;dsimp only at H;have A10:=q_ A100;clear A100;obtain⟨c11,H⟩:=ip_ H;have LMc11:=q_ c11;clear c11;generalize hy112:(x3_1++ [(⟨t108⟩:S67)]:List (S67))=y112 at H;have Ny112:=q_ hy112.symm;clear hy112;have H':=q_ H;clear H
   go_wp2_with(first| ((with_reducible refine gate_callee (f:=66) rfl ?_);refine gl_ (some 24) rfl rfl Try.func66 #[.pointer (some ⟨g,0,none⟩), .int .i64 3] ?_;(with_reducible refine(spec_l1Rd_below.calls g s0_0 x1001_1 3 t106 t107 w0 _ ?side1 ?side2 A9.o).mono ?_);(case side1=>exact si_ HI0);(case side2=>exact be1_ HB.o (IsS149.ge HI0.o));rintro e w12 ⟨rfl,hi,hb,hk⟩;refine⟨_,rfl,?_⟩;replace HO_3:=q_ (Kd.R_mono (Kd.R_keep (IsS149.apart (show IsS149 w0 _ g s0_0 x1001_1 from si_ HI0) (ra_ HO_3.o) (by decide)) hk (fun _ h=>h.2)) (fun _ h=>h.1));replace HK:=kt_ HK hk;replace HB:=q_ (hb);replace HI0:=q_ (hi);clear hb)| ((with_reducible refine gate_callee (f:=125) rfl ?_);refine gl_ (some 26) rfl rfl Try.func125 #[.pointer (some ⟨g,0,none⟩), .int .i64 (wrap64 (1+t106))] ?_;(with_reducible refine(spec_l1Rd_rx.calls k1 g s0_0 t107 (wrap64 (1+t106)) t108 t111 w0 _ ?side1 ?side2 A10.o).mono ?_);(case side1=>exact si_ HI0);(case side2=>exact be1_ HB.o (IsS149.ge HI0.o));rintro e w13 ⟨v109,rfl,ho0,hi,hb,hk⟩;refine⟨_,rfl,?_⟩;have HO110:=q_ (Kd.R_lower ho0 (ks_ HK));replace HO_3:=q_ (Kd.R_mono (Kd.R_told (Kd.R_oldK (IsS149.apart (show IsS149 w0 _ g s0_0 t107 from si_ HI0) (ra_ HO_3.o) (by decide)) hk) (Kd.R_base ho0)) (fun _ h_=>h_.1));replace HK:=kt_ HK hk;replace HB:=q_ (hb);replace HI0:=q_ (hi);clear hb ho0;obtain⟨Ao15,co15,eo15⟩:=Kd.R_slice HO110.o;subst eo15)| ((with_reducible refine gate_builtin (b:= .append) (xs:=#[.tmp 21, .tmp 27]) rfl ?_);at_builtin;refine Kd.R_append k67 w.heap.size rfl (.tmp 21) (.tmp 27) 156 67 (.agg #[(.slice none 0 0)]) 24 rfl Try.underlying156 info67 rfl (by decide) (by omega) u3 x3_1 (⟨t108⟩:S67) [.slice Ao15 t108.length co15] (fun _=>True) (fun k_=>((fun _=>True)) k_∧some k_≠(u3:Value).ownBlock) rfl rfl ?aP (fun _ hk=>hk) ?aF ?aO (Below.refl _ _) ?aS ?aL ?_;(case aP=>exact k67_mkM _ _ _ (⟨t108⟩:S67) (Kd.R_mono (Kd.R_apart' (HO110.o) (Kd.R_typed HO_3.o) (by decide)) (fun k_ hk=>⟨trivial,hk.2⟩)));(case aF=>exact(fun _ _=>trivial));(case aO=>exact(mR_ HO_3 (fun _ hk=>trivial)));(case aS=>exact(ks_ HK));(case aL=>have:=LMc11.o;omega);intro v113 w14 ho hb hg hat;rw[←Ny112.o]at ho;have HO114:=q_ (ho);replace HB:=q_ (below_weaken (be1_ HB.o (IsS149.ge HI0.o)) HL.o hb);replace HI0:=q_ (IsS149.grown (si_ HI0) hg (IsS149.own_ne HI0.o HO_3.o (by decide)));replace HK:=q_ (KeepBut.trans (kp_ HK) (KeepBut.of_grown hg g) (Kd.R_base2 HO_3.o));clear HO_3 HO110 ho hb hg hat))
   go_roundg k1
   case measure=>have:=HK1.o;omega
   case rel=>exact⟨(y112),(wrap64 (x4_1-1)),(t111),rs_,H',⟨by have:=HK1.o;omega⟩,⟨ra_ HO114.o⟩,⟨si_ HI0⟩,⟨kp_ HK⟩,⟨be1_ HB.o (IsS149.ge HI0.o)⟩⟩
mutual
def spec_l1Rd_dfa.j0:Nat→List Int→Int→Option (List Int × (List (List Int)) × List Int × Int)
 |0,_,_=>none
 |k+1,x1000,x1001=>(spec_l1Rd_below.f x1000 x1001 3).bind fun bt128=>(spec_l1Rd_dfa.l0 k (wrap64 (1+bt128.1)) 0 x1000 bt128.2 ([]:List Int))
def spec_l1Rd_dfa.l0:Nat→Int→Int→List Int→Int→List Int→Option (List Int × (List (List Int)) × List Int × Int)
 |0,_,_,_,_,_=>none
 |k+1,x7,x9,x1000,x1001,x131000=>if x9<256 then(if x9≥97 then(if x9<(wrap64 ((wrap64 (97+x7))-1))then(if x131000.length<17592186044416 then(spec_l1Rd_dfa.l0 k x7 (wrap64 (x9+1)) x1000 x1001 (x131000++ [wrap64 (x9-96)]))else(none))else(if x131000.length<17592186044416 then(spec_l1Rd_dfa.l0 k x7 (wrap64 (x9+1)) x1000 x1001 (x131000++ [0]))else(none)))else(if x131000.length<17592186044416 then(spec_l1Rd_dfa.l0 k x7 (wrap64 (x9+1)) x1000 x1001 (x131000++ [0]))else(none)))else((spec_l1Rd_below.f x1000 x1001 (mn 7 (wrap64 (1+(wrap64 ((x1000.length:Int) / 5)))))).bind fun bt140=>(spec_l1Rd_dfa.l1 k x7 (wrap64 (1+bt140.1)) 0 x1000 bt140.2 x131000 ([]:List (List Int)) ([]:List Int)))
def spec_l1Rd_dfa.l1:Nat→Int→Int→Int→List Int→Int→List Int→List (List Int)→List Int→Option (List Int × (List (List Int)) × List Int × Int)
 |0,_,_,_,_,_,_,_,_=>none
 |k+1,x7,x11,x12,x1000,x1001,x131000,x131001,x131002=>if x12<x11 then(spec_l1Rd_dfa.l2 k x7 x11 x12 (([]:List Int)) 0 x1000 x1001 x131000 x131001 x131002)else(some (x131000,x131001,x131002,x1001))
def spec_l1Rd_dfa.l2:Nat→Int→Int→Int→List Int→Int→List Int→Int→List Int→List (List Int)→List Int→Option (List Int × (List (List Int)) × List Int × Int)
 |0,_,_,_,_,_,_,_,_,_,_=>none
 |k+1,x7,x11,x12,x13,x14,x1000,x1001,x131000,x131001,x131002=>if x14<x7 then((spec_l1Rd_below.f x1000 x1001 x11).bind fun bt145=>(if x13.length<17592186044416 then(spec_l1Rd_dfa.l2 k x7 x11 x12 (x13++ [bt145.1]) (wrap64 (x14+1)) x1000 bt145.2 x131000 x131001 x131002)else(none)))else(if x131001.length<5864062014805 then((spec_l1Rd_below.f x1000 x1001 4).bind fun bt153=>(if x131002.length<17592186044416 then(spec_l1Rd_dfa.l1 k x7 x11 (wrap64 (x12+1)) x1000 bt153.2 x131000 (x131001++ [x13]) (x131002++ [wrap64 (bt153.1-1)]))else(none)))else(none))
end
def spec_l1Rd_dfa.f(k:Nat)(s0_0:List Int)(s0_1:Int):Option (List Int × (List (List Int)) × List Int × Int):=(spec_l1Rd_once.f s0_0 s0_1 2).bind fun bt102=>(if bt102.1=true then((spec_l1Rd_rxs.f k s0_0 bt102.2).bind fun bt104=>((spec_BuildNfa.f k bt104.1).bind fun bt108=>((spec_BuildDfa.f k bt108.1 bt108.2.1 bt108.2.2.1 60).bind fun bt117=>(if bt108.2.2.2=true then(if bt117.2.2.2=true then(some (bt117.1,bt117.2.1,bt117.2.2.1,bt104.2))else(spec_l1Rd_dfa.j0 k s0_0 bt104.2))else(spec_l1Rd_dfa.j0 k s0_0 bt104.2)))))else(spec_l1Rd_dfa.j0 k s0_0 bt102.2))
def spec_l1Rd_dfa.T25:Bool × List (List Nat × List Nat):=(true,[([],[]),([0],[0]),([],[]),([2],[2]),([3],[3]),([4],[4]),([1,5,3],[1,5]),([0,1,2,3,4,5,6],[]),([7,6,6,0,1,2,3,4,5,6],[6,7])])
def spec_l1Rd_dfa.B25:List Nat:=[0,1,0,4,12,28,63,127,255]
theorem spec_l1Rd_dfa.tab25:rtab .any (opsOf Try.f107 25)=spec_l1Rd_dfa.T25:=by kernel_rfl
theorem spec_l1Rd_dfa.bits25:waitsOk spec_l1Rd_dfa.T25.2 spec_l1Rd_dfa.B25=true:=by kernel_rfl
theorem spec_l1Rd_dfa.calls(k:Nat)(g:Nat)(s0_0:List Int)(s0_1:Int)(r1:List Int)(r2:List (List Int))(r3:List Int)(r4:Int)(w0 w:World)(hI:IsS149 w0 w g s0_0 s0_1)(hB:Below w0.heap.size w0 w)(h:spec_l1Rd_dfa.f k s0_0 s0_1=some (r1,r2,r3,r4)):
  Calls Try.prog 107 #[.pointer (some ⟨g,0,none⟩)] w fun e w'=>∃v0_ v1_ v2_:Value,e= .returned (.agg #[v0_,v1_,v2_])∧Kd.R (Kd.int .i64) 2 w' w.heap.size (fun k_=>(w.heap.size≤k_)∧some k_≠(v2_:Value).ownBlock) v0_ r1∧Kd.N (Kd.slice 2 (Kd.int .i64)) 22 w' w.heap.size (fun k_=>(w.heap.size≤k_)∧some k_≠(v0_:Value).ownBlock∧some k_≠(v2_:Value).ownBlock) v1_ r2∧Kd.R (Kd.int .i64) 2 w' w.heap.size (fun k_=>(w.heap.size≤k_)∧some k_≠(v0_:Value).ownBlock) v2_ r3∧IsS149 w0 w' g s0_0 r4∧Below w0.heap.size w0 w'∧KeepBut w w' g none:=by
 have hu32:=Try.underlying32;have hu60:=Try.underlying60;have HI0:=q_ hI;have HK:=q_ (KeepBut.refl w g none);have HL:=q_ hB.size;clear hI;have HW0:=q_ hB.size;have HB:=q_ hB;clear hB;have H:((spec_l1Rd_once.f s0_0 s0_1 2).bind fun bt102=>(if bt102.1=true then((spec_l1Rd_rxs.f k s0_0 bt102.2).bind fun bt104=>((spec_BuildNfa.f k bt104.1).bind fun bt108=>((spec_BuildDfa.f k bt108.1 bt108.2.1 bt108.2.2.1 60).bind fun bt117=>(if bt108.2.2.2=true then(if bt117.2.2.2=true then(some (bt117.1,bt117.2.1,bt117.2.2.1,bt104.2))else(spec_l1Rd_dfa.j0 k s0_0 bt104.2))else(spec_l1Rd_dfa.j0 k s0_0 bt104.2)))))else(spec_l1Rd_dfa.j0 k s0_0 bt102.2)))=some (r1,r2,r3,r4):=h;clear h;replace H:=Option.bind_eq_some_iff.mp H;obtain⟨⟨t102,t103⟩,A20,H⟩:=H;dsimp only at H;have A2:=q_ A20;clear A20;have HC3:=q_ H;clear H;go_enter Try.func107,Try.ntmps107
 go_upto_if 16 with(first| ((with_reducible refine gate_dst (N:=2) rfl ?_);refine bx_ 2 #[.slice none 0 0, .slice none 0 0, .slice none 0 0] 32 ?_;intro gb101 hg w4 hbox hb;have BK101:=q_ (hbox);have GW101:=gw_ hg HK;have GE101:=q_ ((Nat.le_trans HW0.o (by rw[hg];exact(ks_ HK):w.heap.size≤gb101):w0.heap.size≤gb101));have NB0_101:=nsl_ hg (show IsS149 w0 _ g s0_0 s0_1 from si_ HI0);have NB101_0:=nsg_ hg (show IsS149 w0 _ g s0_0 s0_1 from si_ HI0);replace HK:=kb_ HK hb;replace HB:=q_ (below_step (be1_ HB.o (IsS149.ge HI0.o)) hb);replace HI0:=ib_ HI0 hb;clear hb hbox hg)| ((with_reducible refine gate_callee (f:=55) rfl ?_);refine gl_ (some 16) rfl rfl Try.func55 #[.pointer (some ⟨g,0,none⟩), .int .i64 2] ?_;(with_reducible refine(spec_l1Rd_once.calls g s0_0 s0_1 2 t102 t103 w0 _ ?side1 ?side2 A2.o).mono ?_);(case side1=>exact si1_ HI0 NB0_101);(case side2=>exact be2_ HB.o (IsS149.ge HI0.o) GE101.o);rintro e w5 ⟨rfl,hi,hb,hk⟩;refine⟨_,rfl,?_⟩;replace BK101:=kbk_ hk BK101 NB101_0;replace HK:=kt1_ HK GW101 hk;replace HB:=q_ (hb);replace HI0:=q_ (hi);clear hb))
 (try simp only[Act.put,List.setIfInBounds_toArray,List.set_cons_zero,List.set_cons_succ])
 go_cut [] (fun wc=>∃(kq:Nat) (x1001_2:Int),J0 (spec_l1Rd_dfa.j0 kq s0_0 x1001_2=some (r1,r2,r3,r4))∧J0 (kq≤k)∧J0 (wc.heap[gb101]? =some (.cells #[(.slice none 0 0),(.slice none 0 0),(.slice none 0 0)] 32 (0,0)))∧J0 (IsS149 w0 wc g s0_0 x1001_2)∧J0 (KeepBut w wc g none)∧J0 (Below w0.heap.size w0 wc))
 case first=>
  have H:=HC3.o;clear HC3;by_cases c6:t102=true;rotate_left
  ·replace c6:=Bool.eq_false_iff.mpr c6;subst c6;rw[if_neg nft_]at H;have H':=q_ H;clear H;go_wp2
   go_meet
   case rel=>exact⟨_,(t103),H',⟨by omega⟩,⟨bk_ BK101.o⟩,⟨si1_ HI0 NB0_101⟩,⟨kp1_ HK GW101⟩,⟨be2_ HB.o (IsS149.ge HI0.o) GE101.o⟩⟩
  subst c6;rw[if_pos rfl]at H;replace H:=Option.bind_eq_some_iff.mp H;obtain⟨⟨t104,t107⟩,A70,H⟩:=H;dsimp only at H;have A7:=q_ A70;clear A70;replace H:=Option.bind_eq_some_iff.mp H;obtain⟨⟨t108,t109,t112,t115⟩,A80,H⟩:=H;dsimp only at H;have A8:=q_ A80;clear A80;replace H:=Option.bind_eq_some_iff.mp H;obtain⟨⟨t117,t120,t123,t126⟩,A90,H⟩:=H;dsimp only at H;have A9:=q_ A90;clear A90;by_cases c10:t115=true;rotate_left
  ·replace c10:=Bool.eq_false_iff.mpr c10;subst c10;rw[if_neg nft_]at H;have H':=q_ H;clear H
   go_wp2_with(first| ((with_reducible refine gate_callee (f:=114) rfl ?_);refine gl_ (some 19) rfl rfl Try.func114 #[.pointer (some ⟨g,0,none⟩)] ?_;(with_reducible refine(spec_l1Rd_rxs.calls k g s0_0 t103 t104 t107 w0 _ ?side1 ?side2 A7.o).mono ?_);(case side1=>exact si1_ HI0 NB0_101);(case side2=>exact be2_ HB.o (IsS149.ge HI0.o) GE101.o);rintro e w54 ⟨v105,rfl,ho0,hi,hb,hk⟩;refine⟨_,rfl,?_⟩;have HO106:=q_ (Kd.N_lower (Kd.N_mono (ok':=fun k_=>(w.heap.size≤k_)∧k_≠gb101∧k_≠g) (Kd.R_N (Kd.R_bound ho0)) (fun k_ hk_=>⟨(Nat.le_trans (ks1_ HK GW101) hk_.2.1),(fb_ BK101 hk_.2.1),(IsS149.fresh (si1_ HI0 NB0_101) k_ hk_.2.1)⟩)) (ks1_ HK GW101));replace BK101:=kbk_ hk BK101 NB101_0;replace HK:=kt1_ HK GW101 hk;replace HB:=q_ (hb);replace HI0:=q_ (hi);clear hb ho0;obtain⟨Ao55,co55,eo55⟩:=Kd.N_slice HO106.o;subst eo55)| ((with_reducible refine gate_callee (f:=113) rfl ?_);refine gl_ (some 20) rfl rfl Try.func113 #[.slice Ao55 t104.length co55] ?_;(with_reducible refine(spec_BuildNfa.calls k _ _ t104 t108 t109 t112 false _ ?side1 ?side2 A8.o).mono ?_);(case side1=>exact ca_ (Kd.N_reads' HO106.o).2.2);(case side2=>exact(Kd.N_reads' HO106.o).2.1);rintro e w56 ⟨v110,v113,rfl,ho0,ho1,hb⟩;refine⟨_,rfl,?_⟩;have HO111:=q_ (Kd.N_lower (Kd.N_mono (ok':=fun k_=>(w.heap.size≤k_)∧some k_≠(v113:Value).ownBlock∧some k_≠(.slice Ao55 t104.length co55:Value).ownBlock∧k_≠gb101∧k_≠g) (Kd.S_N (Kd.S_bound (Kd.S_apart' ho0 (Kd.R_typed ho1) (by decide)))) (fun k_ hk_=>⟨(Nat.le_trans (ks1_ HK GW101) hk_.2.1),hk_.1.2,(Kd.fresh' (Kd.N_lt (na_ HO106.o)) k_ hk_.2.1),(fb_ BK101 hk_.2.1),(IsS149.fresh (si1_ HI0 NB0_101) k_ hk_.2.1)⟩)) (ks1_ HK GW101));have HO114:=q_ (Kd.R_lower (Kd.R_newM (M:=fun k_=>(w.heap.size≤k_)) ho1 (ks1_ HK GW101) (fun k_ h_=>h_)) (ks1_ HK GW101));replace HO106:=q_ (Kd.N_mono (Kd.N_told (Kd.N_told (Kd.N_old (na_ HO106.o) hb) (Kd.S_base ho0)) (Kd.R_base ho1)) (fun _ h_=>h_.1));replace BK101:=lb_ BK101 hb;replace HK:=kb1_ HK GW101 hb;replace HB:=q_ (below_step (be2_ HB.o (IsS149.ge HI0.o) GE101.o) hb);replace HI0:=ib1_ HI0 NB0_101 hb;clear hb ho0 ho1)| ((with_reducible refine gate_dst (N:=3) rfl ?_);refine bx_ 3 #[.int .i64 0, .slice none 0 0, .slice none 0 0] 60 ?_;intro gb116 hg w57 hbox hb;have BK116:=q_ (hbox);have GW116:=gw1_ hg HK GW101;have GE116:=q_ ((Nat.le_trans HW0.o (by rw[hg];exact(ks1_ HK GW101):w.heap.size≤gb116):w0.heap.size≤gb116));have NB101_116:=nl_ hg BK101;have NB116_101:=ng_ hg BK101;have NB0_116:=nsl_ hg (show IsS149 w0 _ g s0_0 t107 from si1_ HI0 NB0_101);have NB116_0:=nsg_ hg (show IsS149 w0 _ g s0_0 t107 from si1_ HI0 NB0_101);replace HO106:=q_ (Kd.N_below (Kd.N_elderB (na_ HO106.o) gb116 (Nat.le_of_eq hg.symm)) hb);replace HO111:=q_ (Kd.N_below (Kd.N_elderB (na_ HO111.o) gb116 (Nat.le_of_eq hg.symm)) hb);replace HO114:=bR_ HO114 hb;replace BK101:=lb_ BK101 hb;replace HK:=kb1_ HK GW101 hb;replace HB:=q_ (below_step (be2_ HB.o (IsS149.ge HI0.o) GE101.o) hb);replace HI0:=ib1_ HI0 NB0_101 hb;clear hb hbox hg;have hnb58:=NB116_101.o;have hnc58:=NB101_116.o;have hnb59:=NB116_0.o;have hnc59:=NB0_116.o;obtain⟨hcz60_0,hcz60_1,hcz60_2,hfz60_0,hfz60_1,hfz60_2⟩:=d3_ BK116;obtain⟨Ao61,co61,eo61⟩:=Kd.N_slice HO111.o;subst eo61;obtain⟨Ao62,co62,eo62⟩:=Kd.R_slice HO114.o;subst eo62)| ((with_reducible refine gate_store (t:=60) (p:=3) rfl ?_);refine store_event (t:=60) (p:=3) (v:=?vo_w63) (w1:=(((w57.setCell ⟨gb116,0,none⟩ (.int .i64 t108)).setCell ⟨gb116,1,none⟩ (.slice Ao61 t109.length co61)).setCell ⟨gb116,2,none⟩ (.slice Ao62 t112.length co62))) ?hg ?ho ?hn ?hr ?_;(case ho=>rfl);(case hg=>rfl);(case hn=>rfl);(case hr=>first| (go_simp;done)| (go_simp;rfl));intro w63 hw;have n0_:J0 (Kd.N k67 67 w63 w.heap.size (fun k_=>(w.heap.size≤k_)∧some k_≠(.slice Ao61 t109.length co61:Value).ownBlock∧some k_≠(.slice Ao62 t112.length co62:Value).ownBlock∧k_≠gb101∧k_≠g∧k_≠gb116) (.slice Ao55 t104.length co55) t104):=⟨(by rw[hw];exact(Kd.N_mono (rfN_ (Kd.N_mono HO106.o (fun k_ hk=>(⟨hk,hk.2⟩:_∧k_≠gb116)))) (fun _ hk=>⟨hk.1.1.1.1.1,⟨hk.1.1.1.2,⟨hk.1.1.2,⟨hk.1.1.1.1.2.1,⟨hk.1.1.1.1.2.2,hk.1.2⟩⟩⟩⟩⟩)))⟩;have n1_:J0 (Kd.N k116 116 w63 w.heap.size (fun k_=>(w.heap.size≤k_)∧some k_≠(.slice Ao55 t104.length co55:Value).ownBlock∧some k_≠(.slice Ao62 t112.length co62:Value).ownBlock∧k_≠gb101∧k_≠g∧k_≠gb116) (.slice Ao61 t109.length co61) t109):=⟨(by rw[hw];exact(Kd.N_mono (rfN_ (Kd.N_mono HO111.o (fun k_ hk=>(⟨hk,hk.2⟩:_∧k_≠gb116)))) (fun _ hk=>⟨hk.1.1.1,⟨hk.1.1.2.2.1,⟨hk.1.1.2.1,⟨hk.1.1.2.2.2.1,⟨hk.1.1.2.2.2.2,hk.1.2⟩⟩⟩⟩⟩)))⟩;have n2_:J0 (Kd.R k138 138 w63 w.heap.size (fun k_=>(w.heap.size≤k_)) (.slice Ao62 t112.length co62) t112):=⟨(by rw[hw];exact(Kd.R_mono (rfR_ (Kd.R_types HO114.o BK116.o (by decide))) (fun _ hk=>hk.1.1)))⟩;have n3_:J0 (w63.heap[gb101]? =some (.cells #[.slice none 0 0, .slice none 0 0, .slice none 0 0] 32 (0,0))):=⟨(by rw[hw];exact(bw_ BK101 NB101_116))⟩;have n4_:J0 (w63.heap[gb116]? =some (.cells #[.int .i64 t108, .slice Ao61 t109.length co61, .slice Ao62 t112.length co62] 60 (0,0))):=⟨(by rw[hw];exact(bp_ BK116))⟩;have n5_:J0 (IsS149 w0 w63 g s0_0 t107):=⟨(by rw[hw];exact(si2_ HI0 NB0_101 NB0_116))⟩;have n6_:J0 (KeepBut w w63 g none):=⟨(by rw[hw];exact(kp2_ HK GW101 GW116))⟩;have n7_:J0 (Below w0.heap.size w0 w63):=⟨(by rw[hw];exact(be3_ HB.o (IsS149.ge HI0.o) GE101.o GE116.o))⟩;clear hw HO106 HO111 HO114 BK101 BK116 HI0 HK HB;have HO106:=n0_;have HO111:=n1_;have HO114:=n2_;have BK101:=n3_;have BK116:=n4_;have HI0:=n5_;have HK:=n6_;have HB:=n7_;clear n0_ n1_ n2_ n3_ n4_ n5_ n6_ n7_;obtain⟨hcz64_0,hcz64_1,hcz64_2,hfz64_0,hfz64_1,hfz64_2⟩:=d3_ BK116)| ((with_reducible refine gate_callee (f:=31) rfl ?_);refine gl_ (some 25) rfl rfl Try.func31 #[.agg #[.int .i64 t108, .slice Ao61 t109.length co61, .slice Ao62 t112.length co62], .int .i64 60] ?_;(with_reducible refine(spec_BuildDfa.calls k t108 (fun k_=>((w.heap.size≤k_)∧(some k_≠(.slice Ao55 t104.length co55:Value).ownBlock∧(some k_≠(.slice Ao62 t112.length co62:Value).ownBlock∧(k_≠gb101∧(k_≠g∧k_≠gb116)))))) _ _ t109 _ _ t112 60 t117 t120 t123 t126 _ ?side1 ?side2 ?side3 A9.o).mono ?_);(case side1=>exact Kd.N_V (HO111.o));(case side2=>exact ca_ (Kd.R_reads' HO114.o).2.2);(case side3=>exact(Kd.R_reads' HO114.o).2.1);rintro e w65 ⟨v118,v121,v124,rfl,ho0,ho1,ho2,hb⟩;refine⟨_,rfl,?_⟩;have HO119:=q_ (Kd.R_lower (Kd.R_newM (M:=fun k_=>(w.heap.size≤k_)) (Kd.R_mono (ok':=fun k_=>some k_≠(v124:Value).ownBlock) ho0 (fun _ hk_=>hk_.2)) (ks2_ HK GW101 GW116) (fun k_ h_=>h_)) (ks2_ HK GW101 GW116));have HO122:=q_ (Kd.N_lower (Kd.N_mono (ok':=fun k_=>(w.heap.size≤k_)∧some k_≠(v118:Value).ownBlock∧some k_≠(v124:Value).ownBlock∧some k_≠(.slice Ao55 t104.length co55:Value).ownBlock∧some k_≠(.slice Ao62 t112.length co62:Value).ownBlock∧k_≠gb101∧k_≠gb116∧k_≠g) ho1 (fun k_ hk_=>⟨Or.elim hk_.1 (fun hs_=>hs_.1) (fun hn_=>(Nat.le_trans (ks2_ HK GW101 GW116) hn_)),hk_.2.1,hk_.2.2,Or.elim hk_.1 (fun hs_=>hs_.2.1) (fun hn_=>(Kd.fresh' (Kd.N_lt (na_ HO106.o)) k_ hn_)),Or.elim hk_.1 (fun hs_=>hs_.2.2.1) (fun hn_=>(Kd.fresh' (Kd.R_lt (ra_ HO114.o)) k_ hn_)),Or.elim hk_.1 (fun hs_=>hs_.2.2.2.1) (fun hn_=>(fb_ BK101 hn_)),Or.elim hk_.1 (fun hs_=>hs_.2.2.2.2.2) (fun hn_=>(fb_ BK116 hn_)),Or.elim hk_.1 (fun hs_=>hs_.2.2.2.2.1) (fun hn_=>(IsS149.fresh (si2_ HI0 NB0_101 NB0_116) k_ hn_))⟩)) (ks2_ HK GW101 GW116));have HO125:=q_ (Kd.R_lower (Kd.R_newM (M:=fun k_=>(w.heap.size≤k_)) (Kd.R_mono (ok':=fun k_=>some k_≠(v118:Value).ownBlock) ho2 (fun _ hk_=>hk_.2)) (ks2_ HK GW101 GW116) (fun k_ h_=>h_)) (ks2_ HK GW101 GW116));replace HO106:=q_ (Kd.N_mono (Kd.N_told (Kd.N_told (Kd.N_told (Kd.N_old (na_ HO106.o) hb) (Kd.R_base ho0)) (Kd.N_base ho1)) (Kd.R_base ho2)) (fun _ h_=>h_.1));replace HO111:=q_ (Kd.N_mono (Kd.N_told (Kd.N_told (Kd.N_told (Kd.N_old (na_ HO111.o) hb) (Kd.R_base ho0)) (Kd.N_base ho1)) (Kd.R_base ho2)) (fun _ h_=>h_.1));replace HO114:=bR_ HO114 hb;replace BK101:=lb_ BK101 hb;replace BK116:=lb_ BK116 hb;replace HK:=kb2_ HK GW101 GW116 hb;replace HB:=q_ (below_step (be3_ HB.o (IsS149.ge HI0.o) GE101.o GE116.o) hb);replace HI0:=ib2_ HI0 NB0_101 NB0_116 hb;clear hb ho0 ho1 ho2)| ((with_reducible refine gate_dst (N:=5) rfl ?_);refine bx_ 5 #[.slice none 0 0, .slice none 0 0, .slice none 0 0] 32 ?_;intro gb127 hg w66 hbox hb;have BK127:=q_ (hbox);have GW127:=gw2_ hg HK GW101 GW116;have GE127:=q_ ((Nat.le_trans HW0.o (by rw[hg];exact(ks2_ HK GW101 GW116):w.heap.size≤gb127):w0.heap.size≤gb127));have NB101_127:=nl_ hg BK101;have NB127_101:=ng_ hg BK101;have NB116_127:=nl_ hg BK116;have NB127_116:=ng_ hg BK116;have NB0_127:=nsl_ hg (show IsS149 w0 _ g s0_0 t107 from si2_ HI0 NB0_101 NB0_116);have NB127_0:=nsg_ hg (show IsS149 w0 _ g s0_0 t107 from si2_ HI0 NB0_101 NB0_116);replace HO106:=q_ (Kd.N_below (Kd.N_elderB (na_ HO106.o) gb127 (Nat.le_of_eq hg.symm)) hb);replace HO111:=q_ (Kd.N_below (Kd.N_elderB (na_ HO111.o) gb127 (Nat.le_of_eq hg.symm)) hb);replace HO114:=bR_ HO114 hb;replace HO119:=bR_ HO119 hb;replace HO122:=q_ (Kd.N_below (Kd.N_elderB (na_ HO122.o) gb127 (Nat.le_of_eq hg.symm)) hb);replace HO125:=bR_ HO125 hb;replace BK101:=lb_ BK101 hb;replace BK116:=lb_ BK116 hb;replace HK:=kb2_ HK GW101 GW116 hb;replace HB:=q_ (below_step (be3_ HB.o (IsS149.ge HI0.o) GE101.o GE116.o) hb);replace HI0:=ib2_ HI0 NB0_101 NB0_116 hb;clear hb hbox hg;obtain⟨Ao67,co67,eo67⟩:=Kd.R_slice HO119.o;subst eo67;have hnb68:=NB127_101.o;have hnc68:=NB101_127.o;have hnb69:=NB127_116.o;have hnc69:=NB116_127.o;have hnb70:=NB127_0.o;have hnc70:=NB0_127.o;obtain⟨hcz71_0,hcz71_1,hcz71_2,hfz71_0,hfz71_1,hfz71_2⟩:=d3_ BK127;obtain⟨Ao72,co72,eo72⟩:=Kd.N_slice HO122.o;subst eo72;obtain⟨Ao73,co73,eo73⟩:=Kd.R_slice HO125.o;subst eo73))
   go_meet
   case rel=>exact⟨_,(t107),H',⟨by omega⟩,⟨by(with_reducible repeat(first|refine blk_drewN ?_ _|refine blk_drew ?_|refine blk_alloc ?_ _));refine blk_far ?_ NB101_127.o _;(with_reducible repeat(first|refine blk_drewN ?_ _|refine blk_drew ?_|refine blk_alloc ?_ _));refine blk_far ?_ NB101_127.o _;(with_reducible repeat(first|refine blk_drewN ?_ _|refine blk_drew ?_|refine blk_alloc ?_ _));refine blk_far ?_ NB101_127.o _;(with_reducible repeat(first|refine blk_drewN ?_ _|refine blk_drew ?_|refine blk_alloc ?_ _));exact BK101.o⟩,⟨si3_ HI0 NB0_101 NB0_116 NB0_127⟩,⟨kp3_ HK GW101 GW116 GW127⟩,⟨be4_ HB.o (IsS149.ge HI0.o) GE101.o GE116.o GE127.o⟩⟩
  subst c10;rw[if_pos rfl]at H;by_cases c11:t126=true;rotate_left
  ·replace c11:=Bool.eq_false_iff.mpr c11;subst c11;rw[if_neg nft_]at H;have H':=q_ H;clear H
   go_wp2_with(first| ((with_reducible refine gate_callee (f:=114) rfl ?_);refine gl_ (some 19) rfl rfl Try.func114 #[.pointer (some ⟨g,0,none⟩)] ?_;(with_reducible refine(spec_l1Rd_rxs.calls k g s0_0 t103 t104 t107 w0 _ ?side1 ?side2 A7.o).mono ?_);(case side1=>exact si1_ HI0 NB0_101);(case side2=>exact be2_ HB.o (IsS149.ge HI0.o) GE101.o);rintro e w34 ⟨v105,rfl,ho0,hi,hb,hk⟩;refine⟨_,rfl,?_⟩;have HO106:=q_ (Kd.N_lower (Kd.N_mono (ok':=fun k_=>(w.heap.size≤k_)∧k_≠gb101∧k_≠g) (Kd.R_N (Kd.R_bound ho0)) (fun k_ hk_=>⟨(Nat.le_trans (ks1_ HK GW101) hk_.2.1),(fb_ BK101 hk_.2.1),(IsS149.fresh (si1_ HI0 NB0_101) k_ hk_.2.1)⟩)) (ks1_ HK GW101));replace BK101:=kbk_ hk BK101 NB101_0;replace HK:=kt1_ HK GW101 hk;replace HB:=q_ (hb);replace HI0:=q_ (hi);clear hb ho0;obtain⟨Ao35,co35,eo35⟩:=Kd.N_slice HO106.o;subst eo35)| ((with_reducible refine gate_callee (f:=113) rfl ?_);refine gl_ (some 20) rfl rfl Try.func113 #[.slice Ao35 t104.length co35] ?_;(with_reducible refine(spec_BuildNfa.calls k _ _ t104 t108 t109 t112 true _ ?side1 ?side2 A8.o).mono ?_);(case side1=>exact ca_ (Kd.N_reads' HO106.o).2.2);(case side2=>exact(Kd.N_reads' HO106.o).2.1);rintro e w36 ⟨v110,v113,rfl,ho0,ho1,hb⟩;refine⟨_,rfl,?_⟩;have HO111:=q_ (Kd.N_lower (Kd.N_mono (ok':=fun k_=>(w.heap.size≤k_)∧some k_≠(v113:Value).ownBlock∧some k_≠(.slice Ao35 t104.length co35:Value).ownBlock∧k_≠gb101∧k_≠g) (Kd.S_N (Kd.S_bound (Kd.S_apart' ho0 (Kd.R_typed ho1) (by decide)))) (fun k_ hk_=>⟨(Nat.le_trans (ks1_ HK GW101) hk_.2.1),hk_.1.2,(Kd.fresh' (Kd.N_lt (na_ HO106.o)) k_ hk_.2.1),(fb_ BK101 hk_.2.1),(IsS149.fresh (si1_ HI0 NB0_101) k_ hk_.2.1)⟩)) (ks1_ HK GW101));have HO114:=q_ (Kd.R_lower (Kd.R_newM (M:=fun k_=>(w.heap.size≤k_)) ho1 (ks1_ HK GW101) (fun k_ h_=>h_)) (ks1_ HK GW101));replace HO106:=q_ (Kd.N_mono (Kd.N_told (Kd.N_told (Kd.N_old (na_ HO106.o) hb) (Kd.S_base ho0)) (Kd.R_base ho1)) (fun _ h_=>h_.1));replace BK101:=lb_ BK101 hb;replace HK:=kb1_ HK GW101 hb;replace HB:=q_ (below_step (be2_ HB.o (IsS149.ge HI0.o) GE101.o) hb);replace HI0:=ib1_ HI0 NB0_101 hb;clear hb ho0 ho1)| ((with_reducible refine gate_dst (N:=3) rfl ?_);refine bx_ 3 #[.int .i64 0, .slice none 0 0, .slice none 0 0] 60 ?_;intro gb116 hg w37 hbox hb;have BK116:=q_ (hbox);have GW116:=gw1_ hg HK GW101;have GE116:=q_ ((Nat.le_trans HW0.o (by rw[hg];exact(ks1_ HK GW101):w.heap.size≤gb116):w0.heap.size≤gb116));have NB101_116:=nl_ hg BK101;have NB116_101:=ng_ hg BK101;have NB0_116:=nsl_ hg (show IsS149 w0 _ g s0_0 t107 from si1_ HI0 NB0_101);have NB116_0:=nsg_ hg (show IsS149 w0 _ g s0_0 t107 from si1_ HI0 NB0_101);replace HO106:=q_ (Kd.N_below (Kd.N_elderB (na_ HO106.o) gb116 (Nat.le_of_eq hg.symm)) hb);replace HO111:=q_ (Kd.N_below (Kd.N_elderB (na_ HO111.o) gb116 (Nat.le_of_eq hg.symm)) hb);replace HO114:=bR_ HO114 hb;replace BK101:=lb_ BK101 hb;replace HK:=kb1_ HK GW101 hb;replace HB:=q_ (below_step (be2_ HB.o (IsS149.ge HI0.o) GE101.o) hb);replace HI0:=ib1_ HI0 NB0_101 hb;clear hb hbox hg;have hnb38:=NB116_101.o;have hnc38:=NB101_116.o;have hnb39:=NB116_0.o;have hnc39:=NB0_116.o;obtain⟨hcz40_0,hcz40_1,hcz40_2,hfz40_0,hfz40_1,hfz40_2⟩:=d3_ BK116;obtain⟨Ao41,co41,eo41⟩:=Kd.N_slice HO111.o;subst eo41;obtain⟨Ao42,co42,eo42⟩:=Kd.R_slice HO114.o;subst eo42)| ((with_reducible refine gate_store (t:=60) (p:=3) rfl ?_);refine store_event (t:=60) (p:=3) (v:=?vo_w43) (w1:=(((w37.setCell ⟨gb116,0,none⟩ (.int .i64 t108)).setCell ⟨gb116,1,none⟩ (.slice Ao41 t109.length co41)).setCell ⟨gb116,2,none⟩ (.slice Ao42 t112.length co42))) ?hg ?ho ?hn ?hr ?_;(case ho=>rfl);(case hg=>rfl);(case hn=>rfl);(case hr=>first| (go_simp;done)| (go_simp;rfl));intro w43 hw;have n0_:J0 (Kd.N k67 67 w43 w.heap.size (fun k_=>(w.heap.size≤k_)∧some k_≠(.slice Ao41 t109.length co41:Value).ownBlock∧some k_≠(.slice Ao42 t112.length co42:Value).ownBlock∧k_≠gb101∧k_≠g∧k_≠gb116) (.slice Ao35 t104.length co35) t104):=⟨(by rw[hw];exact(Kd.N_mono (rfN_ (Kd.N_mono HO106.o (fun k_ hk=>(⟨hk,hk.2⟩:_∧k_≠gb116)))) (fun _ hk=>⟨hk.1.1.1.1.1,⟨hk.1.1.1.2,⟨hk.1.1.2,⟨hk.1.1.1.1.2.1,⟨hk.1.1.1.1.2.2,hk.1.2⟩⟩⟩⟩⟩)))⟩;have n1_:J0 (Kd.N k116 116 w43 w.heap.size (fun k_=>(w.heap.size≤k_)∧some k_≠(.slice Ao35 t104.length co35:Value).ownBlock∧some k_≠(.slice Ao42 t112.length co42:Value).ownBlock∧k_≠gb101∧k_≠g∧k_≠gb116) (.slice Ao41 t109.length co41) t109):=⟨(by rw[hw];exact(Kd.N_mono (rfN_ (Kd.N_mono HO111.o (fun k_ hk=>(⟨hk,hk.2⟩:_∧k_≠gb116)))) (fun _ hk=>⟨hk.1.1.1,⟨hk.1.1.2.2.1,⟨hk.1.1.2.1,⟨hk.1.1.2.2.2.1,⟨hk.1.1.2.2.2.2,hk.1.2⟩⟩⟩⟩⟩)))⟩;have n2_:J0 (Kd.R k138 138 w43 w.heap.size (fun k_=>(w.heap.size≤k_)) (.slice Ao42 t112.length co42) t112):=⟨(by rw[hw];exact(Kd.R_mono (rfR_ (Kd.R_types HO114.o BK116.o (by decide))) (fun _ hk=>hk.1.1)))⟩;have n3_:J0 (w43.heap[gb101]? =some (.cells #[.slice none 0 0, .slice none 0 0, .slice none 0 0] 32 (0,0))):=⟨(by rw[hw];exact(bw_ BK101 NB101_116))⟩;have n4_:J0 (w43.heap[gb116]? =some (.cells #[.int .i64 t108, .slice Ao41 t109.length co41, .slice Ao42 t112.length co42] 60 (0,0))):=⟨(by rw[hw];exact(bp_ BK116))⟩;have n5_:J0 (IsS149 w0 w43 g s0_0 t107):=⟨(by rw[hw];exact(si2_ HI0 NB0_101 NB0_116))⟩;have n6_:J0 (KeepBut w w43 g none):=⟨(by rw[hw];exact(kp2_ HK GW101 GW116))⟩;have n7_:J0 (Below w0.heap.size w0 w43):=⟨(by rw[hw];exact(be3_ HB.o (IsS149.ge HI0.o) GE101.o GE116.o))⟩;clear hw HO106 HO111 HO114 BK101 BK116 HI0 HK HB;have HO106:=n0_;have HO111:=n1_;have HO114:=n2_;have BK101:=n3_;have BK116:=n4_;have HI0:=n5_;have HK:=n6_;have HB:=n7_;clear n0_ n1_ n2_ n3_ n4_ n5_ n6_ n7_;obtain⟨hcz44_0,hcz44_1,hcz44_2,hfz44_0,hfz44_1,hfz44_2⟩:=d3_ BK116)| ((with_reducible refine gate_callee (f:=31) rfl ?_);refine gl_ (some 25) rfl rfl Try.func31 #[.agg #[.int .i64 t108, .slice Ao41 t109.length co41, .slice Ao42 t112.length co42], .int .i64 60] ?_;(with_reducible refine(spec_BuildDfa.calls k t108 (fun k_=>((w.heap.size≤k_)∧(some k_≠(.slice Ao35 t104.length co35:Value).ownBlock∧(some k_≠(.slice Ao42 t112.length co42:Value).ownBlock∧(k_≠gb101∧(k_≠g∧k_≠gb116)))))) _ _ t109 _ _ t112 60 t117 t120 t123 false _ ?side1 ?side2 ?side3 A9.o).mono ?_);(case side1=>exact Kd.N_V (HO111.o));(case side2=>exact ca_ (Kd.R_reads' HO114.o).2.2);(case side3=>exact(Kd.R_reads' HO114.o).2.1);rintro e w45 ⟨v118,v121,v124,rfl,ho0,ho1,ho2,hb⟩;refine⟨_,rfl,?_⟩;have HO119:=q_ (Kd.R_lower (Kd.R_newM (M:=fun k_=>(w.heap.size≤k_)) (Kd.R_mono (ok':=fun k_=>some k_≠(v124:Value).ownBlock) ho0 (fun _ hk_=>hk_.2)) (ks2_ HK GW101 GW116) (fun k_ h_=>h_)) (ks2_ HK GW101 GW116));have HO122:=q_ (Kd.N_lower (Kd.N_mono (ok':=fun k_=>(w.heap.size≤k_)∧some k_≠(v118:Value).ownBlock∧some k_≠(v124:Value).ownBlock∧some k_≠(.slice Ao35 t104.length co35:Value).ownBlock∧some k_≠(.slice Ao42 t112.length co42:Value).ownBlock∧k_≠gb101∧k_≠gb116∧k_≠g) ho1 (fun k_ hk_=>⟨Or.elim hk_.1 (fun hs_=>hs_.1) (fun hn_=>(Nat.le_trans (ks2_ HK GW101 GW116) hn_)),hk_.2.1,hk_.2.2,Or.elim hk_.1 (fun hs_=>hs_.2.1) (fun hn_=>(Kd.fresh' (Kd.N_lt (na_ HO106.o)) k_ hn_)),Or.elim hk_.1 (fun hs_=>hs_.2.2.1) (fun hn_=>(Kd.fresh' (Kd.R_lt (ra_ HO114.o)) k_ hn_)),Or.elim hk_.1 (fun hs_=>hs_.2.2.2.1) (fun hn_=>(fb_ BK101 hn_)),Or.elim hk_.1 (fun hs_=>hs_.2.2.2.2.2) (fun hn_=>(fb_ BK116 hn_)),Or.elim hk_.1 (fun hs_=>hs_.2.2.2.2.1) (fun hn_=>(IsS149.fresh (si2_ HI0 NB0_101 NB0_116) k_ hn_))⟩)) (ks2_ HK GW101 GW116));have HO125:=q_ (Kd.R_lower (Kd.R_newM (M:=fun k_=>(w.heap.size≤k_)) (Kd.R_mono (ok':=fun k_=>some k_≠(v118:Value).ownBlock) ho2 (fun _ hk_=>hk_.2)) (ks2_ HK GW101 GW116) (fun k_ h_=>h_)) (ks2_ HK GW101 GW116));replace HO106:=q_ (Kd.N_mono (Kd.N_told (Kd.N_told (Kd.N_told (Kd.N_old (na_ HO106.o) hb) (Kd.R_base ho0)) (Kd.N_base ho1)) (Kd.R_base ho2)) (fun _ h_=>h_.1));replace HO111:=q_ (Kd.N_mono (Kd.N_told (Kd.N_told (Kd.N_told (Kd.N_old (na_ HO111.o) hb) (Kd.R_base ho0)) (Kd.N_base ho1)) (Kd.R_base ho2)) (fun _ h_=>h_.1));replace HO114:=bR_ HO114 hb;replace BK101:=lb_ BK101 hb;replace BK116:=lb_ BK116 hb;replace HK:=kb2_ HK GW101 GW116 hb;replace HB:=q_ (below_step (be3_ HB.o (IsS149.ge HI0.o) GE101.o GE116.o) hb);replace HI0:=ib2_ HI0 NB0_101 NB0_116 hb;clear hb ho0 ho1 ho2)| ((with_reducible refine gate_dst (N:=5) rfl ?_);refine bx_ 5 #[.slice none 0 0, .slice none 0 0, .slice none 0 0] 32 ?_;intro gb127 hg w46 hbox hb;have BK127:=q_ (hbox);have GW127:=gw2_ hg HK GW101 GW116;have GE127:=q_ ((Nat.le_trans HW0.o (by rw[hg];exact(ks2_ HK GW101 GW116):w.heap.size≤gb127):w0.heap.size≤gb127));have NB101_127:=nl_ hg BK101;have NB127_101:=ng_ hg BK101;have NB116_127:=nl_ hg BK116;have NB127_116:=ng_ hg BK116;have NB0_127:=nsl_ hg (show IsS149 w0 _ g s0_0 t107 from si2_ HI0 NB0_101 NB0_116);have NB127_0:=nsg_ hg (show IsS149 w0 _ g s0_0 t107 from si2_ HI0 NB0_101 NB0_116);replace HO106:=q_ (Kd.N_below (Kd.N_elderB (na_ HO106.o) gb127 (Nat.le_of_eq hg.symm)) hb);replace HO111:=q_ (Kd.N_below (Kd.N_elderB (na_ HO111.o) gb127 (Nat.le_of_eq hg.symm)) hb);replace HO114:=bR_ HO114 hb;replace HO119:=bR_ HO119 hb;replace HO122:=q_ (Kd.N_below (Kd.N_elderB (na_ HO122.o) gb127 (Nat.le_of_eq hg.symm)) hb);replace HO125:=bR_ HO125 hb;replace BK101:=lb_ BK101 hb;replace BK116:=lb_ BK116 hb;replace HK:=kb2_ HK GW101 GW116 hb;replace HB:=q_ (below_step (be3_ HB.o (IsS149.ge HI0.o) GE101.o GE116.o) hb);replace HI0:=ib2_ HI0 NB0_101 NB0_116 hb;clear hb hbox hg;obtain⟨Ao47,co47,eo47⟩:=Kd.R_slice HO119.o;subst eo47;have hnb48:=NB127_101.o;have hnc48:=NB101_127.o;have hnb49:=NB127_116.o;have hnc49:=NB116_127.o;have hnb50:=NB127_0.o;have hnc50:=NB0_127.o;obtain⟨hcz51_0,hcz51_1,hcz51_2,hfz51_0,hfz51_1,hfz51_2⟩:=d3_ BK127;obtain⟨Ao52,co52,eo52⟩:=Kd.N_slice HO122.o;subst eo52;obtain⟨Ao53,co53,eo53⟩:=Kd.R_slice HO125.o;subst eo53))
   go_meet
   case rel=>exact⟨_,(t107),H',⟨by omega⟩,⟨by(with_reducible repeat(first|refine blk_drewN ?_ _|refine blk_drew ?_|refine blk_alloc ?_ _));refine blk_far ?_ NB101_127.o _;(with_reducible repeat(first|refine blk_drewN ?_ _|refine blk_drew ?_|refine blk_alloc ?_ _));refine blk_far ?_ NB101_127.o _;(with_reducible repeat(first|refine blk_drewN ?_ _|refine blk_drew ?_|refine blk_alloc ?_ _));refine blk_far ?_ NB101_127.o _;(with_reducible repeat(first|refine blk_drewN ?_ _|refine blk_drew ?_|refine blk_alloc ?_ _));exact BK101.o⟩,⟨si3_ HI0 NB0_101 NB0_116 NB0_127⟩,⟨kp3_ HK GW101 GW116 GW127⟩,⟨be4_ HB.o (IsS149.ge HI0.o) GE101.o GE116.o GE127.o⟩⟩
  subst c11;rw[if_pos rfl]at H;simp only[Option.some.injEq,Prod.mk.injEq]at H;obtain⟨rfl,rfl,rfl,rfl⟩:=H
  go_wp2_with(first| ((with_reducible refine gate_callee (f:=114) rfl ?_);refine gl_ (some 19) rfl rfl Try.func114 #[.pointer (some ⟨g,0,none⟩)] ?_;(with_reducible refine(spec_l1Rd_rxs.calls k g s0_0 t103 t104 t107 w0 _ ?side1 ?side2 A7.o).mono ?_);(case side1=>exact si1_ HI0 NB0_101);(case side2=>exact be2_ HB.o (IsS149.ge HI0.o) GE101.o);rintro e w12 ⟨v105,rfl,ho0,hi,hb,hk⟩;refine⟨_,rfl,?_⟩;have HO106:=q_ (Kd.N_lower (Kd.N_mono (ok':=fun k_=>(w.heap.size≤k_)∧k_≠gb101∧k_≠g) (Kd.R_N (Kd.R_bound ho0)) (fun k_ hk_=>⟨(Nat.le_trans (ks1_ HK GW101) hk_.2.1),(fb_ BK101 hk_.2.1),(IsS149.fresh (si1_ HI0 NB0_101) k_ hk_.2.1)⟩)) (ks1_ HK GW101));replace BK101:=kbk_ hk BK101 NB101_0;replace HK:=kt1_ HK GW101 hk;replace HB:=q_ (hb);replace HI0:=q_ (hi);clear hb ho0;obtain⟨Ao13,co13,eo13⟩:=Kd.N_slice HO106.o;subst eo13)| ((with_reducible refine gate_callee (f:=113) rfl ?_);refine gl_ (some 20) rfl rfl Try.func113 #[.slice Ao13 t104.length co13] ?_;(with_reducible refine(spec_BuildNfa.calls k _ _ t104 t108 t109 t112 true _ ?side1 ?side2 A8.o).mono ?_);(case side1=>exact ca_ (Kd.N_reads' HO106.o).2.2);(case side2=>exact(Kd.N_reads' HO106.o).2.1);rintro e w14 ⟨v110,v113,rfl,ho0,ho1,hb⟩;refine⟨_,rfl,?_⟩;have HO111:=q_ (Kd.N_lower (Kd.N_mono (ok':=fun k_=>(w.heap.size≤k_)∧some k_≠(v113:Value).ownBlock∧some k_≠(.slice Ao13 t104.length co13:Value).ownBlock∧k_≠gb101∧k_≠g) (Kd.S_N (Kd.S_bound (Kd.S_apart' ho0 (Kd.R_typed ho1) (by decide)))) (fun k_ hk_=>⟨(Nat.le_trans (ks1_ HK GW101) hk_.2.1),hk_.1.2,(Kd.fresh' (Kd.N_lt (na_ HO106.o)) k_ hk_.2.1),(fb_ BK101 hk_.2.1),(IsS149.fresh (si1_ HI0 NB0_101) k_ hk_.2.1)⟩)) (ks1_ HK GW101));have HO114:=q_ (Kd.R_lower (Kd.R_newM (M:=fun k_=>(w.heap.size≤k_)) ho1 (ks1_ HK GW101) (fun k_ h_=>h_)) (ks1_ HK GW101));replace HO106:=q_ (Kd.N_mono (Kd.N_told (Kd.N_told (Kd.N_old (na_ HO106.o) hb) (Kd.S_base ho0)) (Kd.R_base ho1)) (fun _ h_=>h_.1));replace BK101:=lb_ BK101 hb;replace HK:=kb1_ HK GW101 hb;replace HB:=q_ (below_step (be2_ HB.o (IsS149.ge HI0.o) GE101.o) hb);replace HI0:=ib1_ HI0 NB0_101 hb;clear hb ho0 ho1)| ((with_reducible refine gate_dst (N:=3) rfl ?_);refine bx_ 3 #[.int .i64 0, .slice none 0 0, .slice none 0 0] 60 ?_;intro gb116 hg w15 hbox hb;have BK116:=q_ (hbox);have GW116:=gw1_ hg HK GW101;have GE116:=q_ ((Nat.le_trans HW0.o (by rw[hg];exact(ks1_ HK GW101):w.heap.size≤gb116):w0.heap.size≤gb116));have NB101_116:=nl_ hg BK101;have NB116_101:=ng_ hg BK101;have NB0_116:=nsl_ hg (show IsS149 w0 _ g s0_0 t107 from si1_ HI0 NB0_101);have NB116_0:=nsg_ hg (show IsS149 w0 _ g s0_0 t107 from si1_ HI0 NB0_101);replace HO106:=q_ (Kd.N_below (Kd.N_elderB (na_ HO106.o) gb116 (Nat.le_of_eq hg.symm)) hb);replace HO111:=q_ (Kd.N_below (Kd.N_elderB (na_ HO111.o) gb116 (Nat.le_of_eq hg.symm)) hb);replace HO114:=bR_ HO114 hb;replace BK101:=lb_ BK101 hb;replace HK:=kb1_ HK GW101 hb;replace HB:=q_ (below_step (be2_ HB.o (IsS149.ge HI0.o) GE101.o) hb);replace HI0:=ib1_ HI0 NB0_101 hb;clear hb hbox hg;have hnb16:=NB116_101.o;have hnc16:=NB101_116.o;have hnb17:=NB116_0.o;have hnc17:=NB0_116.o;obtain⟨hcz18_0,hcz18_1,hcz18_2,hfz18_0,hfz18_1,hfz18_2⟩:=d3_ BK116;obtain⟨Ao19,co19,eo19⟩:=Kd.N_slice HO111.o;subst eo19;obtain⟨Ao20,co20,eo20⟩:=Kd.R_slice HO114.o;subst eo20)| ((with_reducible refine gate_store (t:=60) (p:=3) rfl ?_);refine store_event (t:=60) (p:=3) (v:=?vo_w21) (w1:=(((w15.setCell ⟨gb116,0,none⟩ (.int .i64 t108)).setCell ⟨gb116,1,none⟩ (.slice Ao19 t109.length co19)).setCell ⟨gb116,2,none⟩ (.slice Ao20 t112.length co20))) ?hg ?ho ?hn ?hr ?_;(case ho=>rfl);(case hg=>rfl);(case hn=>rfl);(case hr=>first| (go_simp;done)| (go_simp;rfl));intro w21 hw;have n0_:J0 (Kd.N k67 67 w21 w.heap.size (fun k_=>(w.heap.size≤k_)∧some k_≠(.slice Ao19 t109.length co19:Value).ownBlock∧some k_≠(.slice Ao20 t112.length co20:Value).ownBlock∧k_≠gb101∧k_≠g∧k_≠gb116) (.slice Ao13 t104.length co13) t104):=⟨(by rw[hw];exact(Kd.N_mono (rfN_ (Kd.N_mono HO106.o (fun k_ hk=>(⟨hk,hk.2⟩:_∧k_≠gb116)))) (fun _ hk=>⟨hk.1.1.1.1.1,⟨hk.1.1.1.2,⟨hk.1.1.2,⟨hk.1.1.1.1.2.1,⟨hk.1.1.1.1.2.2,hk.1.2⟩⟩⟩⟩⟩)))⟩;have n1_:J0 (Kd.N k116 116 w21 w.heap.size (fun k_=>(w.heap.size≤k_)∧some k_≠(.slice Ao13 t104.length co13:Value).ownBlock∧some k_≠(.slice Ao20 t112.length co20:Value).ownBlock∧k_≠gb101∧k_≠g∧k_≠gb116) (.slice Ao19 t109.length co19) t109):=⟨(by rw[hw];exact(Kd.N_mono (rfN_ (Kd.N_mono HO111.o (fun k_ hk=>(⟨hk,hk.2⟩:_∧k_≠gb116)))) (fun _ hk=>⟨hk.1.1.1,⟨hk.1.1.2.2.1,⟨hk.1.1.2.1,⟨hk.1.1.2.2.2.1,⟨hk.1.1.2.2.2.2,hk.1.2⟩⟩⟩⟩⟩)))⟩;have n2_:J0 (Kd.R k138 138 w21 w.heap.size (fun k_=>(w.heap.size≤k_)) (.slice Ao20 t112.length co20) t112):=⟨(by rw[hw];exact(Kd.R_mono (rfR_ (Kd.R_types HO114.o BK116.o (by decide))) (fun _ hk=>hk.1.1)))⟩;have n3_:J0 (w21.heap[gb101]? =some (.cells #[.slice none 0 0, .slice none 0 0, .slice none 0 0] 32 (0,0))):=⟨(by rw[hw];exact(bw_ BK101 NB101_116))⟩;have n4_:J0 (w21.heap[gb116]? =some (.cells #[.int .i64 t108, .slice Ao19 t109.length co19, .slice Ao20 t112.length co20] 60 (0,0))):=⟨(by rw[hw];exact(bp_ BK116))⟩;have n5_:J0 (IsS149 w0 w21 g s0_0 t107):=⟨(by rw[hw];exact(si2_ HI0 NB0_101 NB0_116))⟩;have n6_:J0 (KeepBut w w21 g none):=⟨(by rw[hw];exact(kp2_ HK GW101 GW116))⟩;have n7_:J0 (Below w0.heap.size w0 w21):=⟨(by rw[hw];exact(be3_ HB.o (IsS149.ge HI0.o) GE101.o GE116.o))⟩;clear hw HO106 HO111 HO114 BK101 BK116 HI0 HK HB;have HO106:=n0_;have HO111:=n1_;have HO114:=n2_;have BK101:=n3_;have BK116:=n4_;have HI0:=n5_;have HK:=n6_;have HB:=n7_;clear n0_ n1_ n2_ n3_ n4_ n5_ n6_ n7_;obtain⟨hcz22_0,hcz22_1,hcz22_2,hfz22_0,hfz22_1,hfz22_2⟩:=d3_ BK116)| ((with_reducible refine gate_callee (f:=31) rfl ?_);refine gl_ (some 25) rfl rfl Try.func31 #[.agg #[.int .i64 t108, .slice Ao19 t109.length co19, .slice Ao20 t112.length co20], .int .i64 60] ?_;(with_reducible refine(spec_BuildDfa.calls k t108 (fun k_=>((w.heap.size≤k_)∧(some k_≠(.slice Ao13 t104.length co13:Value).ownBlock∧(some k_≠(.slice Ao20 t112.length co20:Value).ownBlock∧(k_≠gb101∧(k_≠g∧k_≠gb116)))))) _ _ t109 _ _ t112 60 t117 t120 t123 true _ ?side1 ?side2 ?side3 A9.o).mono ?_);(case side1=>exact Kd.N_V (HO111.o));(case side2=>exact ca_ (Kd.R_reads' HO114.o).2.2);(case side3=>exact(Kd.R_reads' HO114.o).2.1);rintro e w23 ⟨v118,v121,v124,rfl,ho0,ho1,ho2,hb⟩;refine⟨_,rfl,?_⟩;have HO119:=q_ (Kd.R_lower (Kd.R_newM (M:=fun k_=>(w.heap.size≤k_)) (Kd.R_mono (ok':=fun k_=>some k_≠(v124:Value).ownBlock) ho0 (fun _ hk_=>hk_.2)) (ks2_ HK GW101 GW116) (fun k_ h_=>h_)) (ks2_ HK GW101 GW116));have HO122:=q_ (Kd.N_lower (Kd.N_mono (ok':=fun k_=>(w.heap.size≤k_)∧some k_≠(v118:Value).ownBlock∧some k_≠(v124:Value).ownBlock∧some k_≠(.slice Ao13 t104.length co13:Value).ownBlock∧some k_≠(.slice Ao20 t112.length co20:Value).ownBlock∧k_≠gb101∧k_≠gb116∧k_≠g) ho1 (fun k_ hk_=>⟨Or.elim hk_.1 (fun hs_=>hs_.1) (fun hn_=>(Nat.le_trans (ks2_ HK GW101 GW116) hn_)),hk_.2.1,hk_.2.2,Or.elim hk_.1 (fun hs_=>hs_.2.1) (fun hn_=>(Kd.fresh' (Kd.N_lt (na_ HO106.o)) k_ hn_)),Or.elim hk_.1 (fun hs_=>hs_.2.2.1) (fun hn_=>(Kd.fresh' (Kd.R_lt (ra_ HO114.o)) k_ hn_)),Or.elim hk_.1 (fun hs_=>hs_.2.2.2.1) (fun hn_=>(fb_ BK101 hn_)),Or.elim hk_.1 (fun hs_=>hs_.2.2.2.2.2) (fun hn_=>(fb_ BK116 hn_)),Or.elim hk_.1 (fun hs_=>hs_.2.2.2.2.1) (fun hn_=>(IsS149.fresh (si2_ HI0 NB0_101 NB0_116) k_ hn_))⟩)) (ks2_ HK GW101 GW116));have HO125:=q_ (Kd.R_lower (Kd.R_newM (M:=fun k_=>(w.heap.size≤k_)) (Kd.R_mono (ok':=fun k_=>some k_≠(v118:Value).ownBlock) ho2 (fun _ hk_=>hk_.2)) (ks2_ HK GW101 GW116) (fun k_ h_=>h_)) (ks2_ HK GW101 GW116));replace HO106:=q_ (Kd.N_mono (Kd.N_told (Kd.N_told (Kd.N_told (Kd.N_old (na_ HO106.o) hb) (Kd.R_base ho0)) (Kd.N_base ho1)) (Kd.R_base ho2)) (fun _ h_=>h_.1));replace HO111:=q_ (Kd.N_mono (Kd.N_told (Kd.N_told (Kd.N_told (Kd.N_old (na_ HO111.o) hb) (Kd.R_base ho0)) (Kd.N_base ho1)) (Kd.R_base ho2)) (fun _ h_=>h_.1));replace HO114:=bR_ HO114 hb;replace BK101:=lb_ BK101 hb;replace BK116:=lb_ BK116 hb;replace HK:=kb2_ HK GW101 GW116 hb;replace HB:=q_ (below_step (be3_ HB.o (IsS149.ge HI0.o) GE101.o GE116.o) hb);replace HI0:=ib2_ HI0 NB0_101 NB0_116 hb;clear hb ho0 ho1 ho2)| ((with_reducible refine gate_dst (N:=5) rfl ?_);refine bx_ 5 #[.slice none 0 0, .slice none 0 0, .slice none 0 0] 32 ?_;intro gb127 hg w24 hbox hb;have BK127:=q_ (hbox);have GW127:=gw2_ hg HK GW101 GW116;have GE127:=q_ ((Nat.le_trans HW0.o (by rw[hg];exact(ks2_ HK GW101 GW116):w.heap.size≤gb127):w0.heap.size≤gb127));have NB101_127:=nl_ hg BK101;have NB127_101:=ng_ hg BK101;have NB116_127:=nl_ hg BK116;have NB127_116:=ng_ hg BK116;have NB0_127:=nsl_ hg (show IsS149 w0 _ g s0_0 t107 from si2_ HI0 NB0_101 NB0_116);have NB127_0:=nsg_ hg (show IsS149 w0 _ g s0_0 t107 from si2_ HI0 NB0_101 NB0_116);replace HO106:=q_ (Kd.N_below (Kd.N_elderB (na_ HO106.o) gb127 (Nat.le_of_eq hg.symm)) hb);replace HO111:=q_ (Kd.N_below (Kd.N_elderB (na_ HO111.o) gb127 (Nat.le_of_eq hg.symm)) hb);replace HO114:=bR_ HO114 hb;replace HO119:=bR_ HO119 hb;replace HO122:=q_ (Kd.N_below (Kd.N_elderB (na_ HO122.o) gb127 (Nat.le_of_eq hg.symm)) hb);replace HO125:=bR_ HO125 hb;replace BK101:=lb_ BK101 hb;replace BK116:=lb_ BK116 hb;replace HK:=kb2_ HK GW101 GW116 hb;replace HB:=q_ (below_step (be3_ HB.o (IsS149.ge HI0.o) GE101.o GE116.o) hb);replace HI0:=ib2_ HI0 NB0_101 NB0_116 hb;clear hb hbox hg;obtain⟨Ao25,co25,eo25⟩:=Kd.R_slice HO119.o;subst eo25;have hnb26:=NB127_101.o;have hnc26:=NB101_127.o;have hnb27:=NB127_116.o;have hnc27:=NB116_127.o;have hnb28:=NB127_0.o;have hnc28:=NB0_127.o;obtain⟨hcz29_0,hcz29_1,hcz29_2,hfz29_0,hfz29_1,hfz29_2⟩:=d3_ BK127;obtain⟨Ao30,co30,eo30⟩:=Kd.N_slice HO122.o;subst eo30;obtain⟨Ao31,co31,eo31⟩:=Kd.R_slice HO125.o;subst eo31;have hnb32:=NB101_0.o;have hnc32:=NB0_101.o;obtain⟨hcz33_0,hcz33_1,hcz33_2,hfz33_0,hfz33_1,hfz33_2⟩:=d3_ BK101))
  refine bodyPost_ret (results_cell_row rfl _ _ gb101 32 #[.slice Ao25 t117.length co25, .slice Ao30 t120.length co30, .slice Ao31 t123.length co31] (0,0) _ rfl (by(with_reducible repeat(first|refine blk_drewN ?_ _|refine blk_drew ?_|refine blk_alloc ?_ _));refine blk_put (cs:=#[.slice Ao25 t117.length co25, .slice Ao30 t120.length co30, .slice none 0 0]) ?_ 2 _ rfl;(with_reducible repeat(first|refine blk_drewN ?_ _|refine blk_drew ?_|refine blk_alloc ?_ _));refine blk_put (cs:=#[.slice Ao25 t117.length co25, .slice none 0 0, .slice none 0 0]) ?_ 1 _ rfl;(with_reducible repeat(first|refine blk_drewN ?_ _|refine blk_drew ?_|refine blk_alloc ?_ _));refine blk_put (cs:=#[.slice none 0 0, .slice none 0 0, .slice none 0 0]) ?_ 0 _ rfl;(with_reducible repeat(first|refine blk_drewN ?_ _|refine blk_drew ?_|refine blk_alloc ?_ _));refine blk_far ?_ NB101_127.o _;(with_reducible repeat(first|refine blk_drewN ?_ _|refine blk_drew ?_|refine blk_alloc ?_ _));refine blk_far ?_ NB101_127.o _;(with_reducible repeat(first|refine blk_drewN ?_ _|refine blk_drew ?_|refine blk_alloc ?_ _));refine blk_far ?_ NB101_127.o _;(with_reducible repeat(first|refine blk_drewN ?_ _|refine blk_drew ?_|refine blk_alloc ?_ _));exact BK101.o) Try.underlying32 rfl (by kernel_rfl)) rfl ?_;exact⟨_,_,_,rt_,by(with_reducible repeat(first|apply Kd.R_alloc|apply Kd.R_drewN|apply Kd.R_drew));exact Kd.R_mono (Kd.R_far (p:=⟨gb101,2,none⟩) (Kd.R_far (p:=⟨gb101,1,none⟩) (Kd.R_far (p:=⟨gb101,0,none⟩) (Kd.R_far (p:=⟨gb127,2,none⟩) (Kd.R_far (p:=⟨gb127,1,none⟩) (Kd.R_far (p:=⟨gb127,0,none⟩) (Kd.R_types (Kd.R_types HO119.o BK127.o (by decide)) BK101.o (by decide)) (fun _ hk=>hk.1.2) (.slice Ao25 t117.length co25)) (fun _ hk=>hk.1.2) (.slice Ao30 t120.length co30)) (fun _ hk=>hk.1.2) (.slice Ao31 t123.length co31)) (fun _ hk=>hk.2) (.slice Ao25 t117.length co25)) (fun _ hk=>hk.2) (.slice Ao30 t120.length co30)) (fun _ hk=>hk.2) (.slice Ao31 t123.length co31)) (fun _ hk=>⟨hk.1.1.1,hk.1.1.2⟩),by(with_reducible repeat(first|apply Kd.N_alloc|apply Kd.N_drewN|apply Kd.N_drew));exact Kd.N_mono (Kd.N_far (p:=⟨gb101,2,none⟩) (Kd.N_far (p:=⟨gb101,1,none⟩) (Kd.N_far (p:=⟨gb101,0,none⟩) (Kd.N_far (p:=⟨gb127,2,none⟩) (Kd.N_far (p:=⟨gb127,1,none⟩) (Kd.N_far (p:=⟨gb127,0,none⟩) (Kd.N_mono (Kd.N_mono HO122.o (fun k_ hk=>(⟨hk,hk.2⟩:_∧k_≠gb127))) (fun k_ hk=>(⟨hk,hk.1.1.2.2.2.2.2.1⟩:_∧k_≠gb101))) (fun _ hk=>hk.1.2) (.slice Ao25 t117.length co25)) (fun _ hk=>hk.1.2) (.slice Ao30 t120.length co30)) (fun _ hk=>hk.1.2) (.slice Ao31 t123.length co31)) (fun _ hk=>hk.2) (.slice Ao25 t117.length co25)) (fun _ hk=>hk.2) (.slice Ao30 t120.length co30)) (fun _ hk=>hk.2) (.slice Ao31 t123.length co31)) (fun _ hk=>⟨hk.1.1.1.1,⟨hk.1.1.1.2.1,hk.1.1.1.2.2.1⟩⟩),by(with_reducible repeat(first|apply Kd.R_alloc|apply Kd.R_drewN|apply Kd.R_drew));exact Kd.R_mono (Kd.R_far (p:=⟨gb101,2,none⟩) (Kd.R_far (p:=⟨gb101,1,none⟩) (Kd.R_far (p:=⟨gb101,0,none⟩) (Kd.R_far (p:=⟨gb127,2,none⟩) (Kd.R_far (p:=⟨gb127,1,none⟩) (Kd.R_far (p:=⟨gb127,0,none⟩) (Kd.R_types (Kd.R_types HO125.o BK127.o (by decide)) BK101.o (by decide)) (fun _ hk=>hk.1.2) (.slice Ao25 t117.length co25)) (fun _ hk=>hk.1.2) (.slice Ao30 t120.length co30)) (fun _ hk=>hk.1.2) (.slice Ao31 t123.length co31)) (fun _ hk=>hk.2) (.slice Ao25 t117.length co25)) (fun _ hk=>hk.2) (.slice Ao30 t120.length co30)) (fun _ hk=>hk.2) (.slice Ao31 t123.length co31)) (fun _ hk=>⟨hk.1.1.1,hk.1.1.2⟩),si3_ HI0 NB0_101 NB0_116 NB0_127,be4_ HB.o (IsS149.ge HI0.o) GE101.o GE116.o GE127.o,kp3_ HK GW101 GW116 GW127⟩
 case rest=>
  clear HC3;obtain⟨kq,x1001_2,HA,HJ2,BK101,HI0,HK,HB⟩:=hcut;cases kq with
  |zero=>exact absurd HA.o (by simp[spec_l1Rd_dfa.j0])
  | succ kj2=>
   have H:=HA.o;clear HA;simp only[spec_l1Rd_dfa.j0]at H;replace H:=Option.bind_eq_some_iff.mp H;obtain⟨⟨t128,t129⟩,A740,H⟩:=H;dsimp only at H;have A74:=q_ A740;clear A740;have H':=q_ H;clear H
   go_wp2_with(first| ((with_reducible refine gate_callee (f:=66) rfl ?_);refine gl_ (some 34) rfl rfl Try.func66 #[.pointer (some ⟨g,0,none⟩), .int .i64 3] ?_;(with_reducible refine(spec_l1Rd_below.calls g s0_0 x1001_2 3 t128 t129 w0 _ ?side1 ?side2 A74.o).mono ?_);(case side1=>exact si1_ HI0 NB0_101);(case side2=>exact be2_ HB.o (IsS149.ge HI0.o) GE101.o);rintro e w75 ⟨rfl,hi,hb,hk⟩;refine⟨_,rfl,?_⟩;replace BK101:=kbk_ hk BK101 NB101_0;replace HK:=kt1_ HK GW101 hk;replace HB:=q_ (hb);replace HI0:=q_ (hi);clear hb)| ((with_reducible refine gate_dst (N:=8) rfl ?_);refine bx_ 8 #[.slice none 0 0, .slice none 0 0, .slice none 0 0] 32 ?_;intro gb130 hg w76 hbox hb;have BK130:=q_ (hbox);have GW130:=gw1_ hg HK GW101;have GE130:=q_ ((Nat.le_trans HW0.o (by rw[hg];exact(ks1_ HK GW101):w.heap.size≤gb130):w0.heap.size≤gb130));have NB101_130:=nl_ hg BK101;have NB130_101:=ng_ hg BK101;have NB0_130:=nsl_ hg (show IsS149 w0 _ g s0_0 t129 from si1_ HI0 NB0_101);have NB130_0:=nsg_ hg (show IsS149 w0 _ g s0_0 t129 from si1_ HI0 NB0_101);replace BK101:=lb_ BK101 hb;replace HK:=kb1_ HK GW101 hb;replace HB:=q_ (below_step (be2_ HB.o (IsS149.ge HI0.o) GE101.o) hb);replace HI0:=ib1_ HI0 NB0_101 hb;clear hb hbox hg;have hnb77:=NB130_101.o;have hnc77:=NB101_130.o;have hnb78:=NB130_0.o;have hnc78:=NB0_130.o;obtain⟨hcz79_0,hcz79_1,hcz79_2,hfz79_0,hfz79_1,hfz79_2⟩:=d3_ BK130))
   go_loopg [9] kj2 (fun kq v9 w'=>∃(x9_2:Int) (x131000_2:List Int) (u131000:Value),v9= .int .i64 x9_2∧J0 (spec_l1Rd_dfa.l0 kq (wrap64 (1+t128)) x9_2 s0_0 t129 x131000_2=some (r1,r2,r3,r4))∧J0 (kq≤kj2)∧J0 (Kd.R (Kd.int .i64) 2 w' w.heap.size (fun k_=>(w.heap.size≤k_)) u131000 x131000_2)∧J0 (w'.heap[gb101]? =some (.cells #[(.slice none 0 0),(.slice none 0 0),(.slice none 0 0)] 32 (0,0)))∧J0 (w'.heap[gb130]? =some (.cells #[u131000,(.slice none 0 0),(.slice none 0 0)] 32 (0,0)))∧J0 (IsS149 w0 w' g s0_0 t129)∧J0 (KeepBut w w' g none)∧J0 (Below w0.heap.size w0 w'))
   case atStart=>exact⟨(0),(([]:List Int)),(.slice none 0 0),rs_,H',⟨Nat.le_refl _⟩,⟨by exact Kd.R_nil _ _ _ _ _⟩,⟨by(with_reducible repeat(first|refine blk_drewN ?_ _|refine blk_drew ?_|refine blk_alloc ?_ _));refine blk_far ?_ NB101_130.o _;(with_reducible repeat(first|refine blk_drewN ?_ _|refine blk_drew ?_|refine blk_alloc ?_ _));refine blk_far ?_ NB101_130.o _;(with_reducible repeat(first|refine blk_drewN ?_ _|refine blk_drew ?_|refine blk_alloc ?_ _));refine blk_far ?_ NB101_130.o _;(with_reducible repeat(first|refine blk_drewN ?_ _|refine blk_drew ?_|refine blk_alloc ?_ _));exact BK101.o⟩,⟨by(with_reducible repeat(first|refine blk_drewN ?_ _|refine blk_drew ?_|refine blk_alloc ?_ _));refine blk_put (cs:=#[.slice none 0 0, .slice none 0 0, .slice none 0 0]) ?_ 2 _ rfl;(with_reducible repeat(first|refine blk_drewN ?_ _|refine blk_drew ?_|refine blk_alloc ?_ _));refine blk_put (cs:=#[.slice none 0 0, .slice none 0 0, .slice none 0 0]) ?_ 1 _ rfl;(with_reducible repeat(first|refine blk_drewN ?_ _|refine blk_drew ?_|refine blk_alloc ?_ _));refine blk_put (cs:=#[.slice none 0 0, .slice none 0 0, .slice none 0 0]) ?_ 0 _ rfl;(with_reducible repeat(first|refine blk_drewN ?_ _|refine blk_drew ?_|refine blk_alloc ?_ _));exact BK130.o⟩,⟨si2_ HI0 NB0_101 NB0_130⟩,⟨kp2_ HK GW101 GW130⟩,⟨be3_ HB.o (IsS149.ge HI0.o) GE101.o GE130.o⟩⟩
   case round=>
    clear H';clear hcz79_0 hcz79_1 hcz79_2 hfz79_0 hfz79_1 hfz79_2;obtain⟨x9_2,x131000_2,u131000,rfl,HA,HK2,HO_131000,BK101,BK130,HI0,HK,HB⟩:=hrel;cases gk with
    |zero=>exact absurd HA.o (by simp[spec_l1Rd_dfa.l0])
    | succ k2=>
     have H:=HA.o;clear HA;simp only[spec_l1Rd_dfa.l0]at H;by_cases c80:x9_2<256
     ·rw[if_pos c80]at H;have c80b0:=dt_ c80;clear c80;have hnb84:=NB130_101.o;have hnc84:=NB101_130.o;have hnb85:=NB130_0.o;have hnc85:=NB0_130.o;obtain⟨hcz86_0,hcz86_1,hcz86_2,hfz86_0,hfz86_1,hfz86_2⟩:=d3_ BK130;by_cases c81:x9_2≥97;rotate_left
      ·rw[if_neg c81]at H;have c81b0:decide (97≤x9_2)=false:=df_ c81;clear c81;obtain⟨c97,H⟩:=ip_ H;have LMc97:=q_ c97;clear c97;generalize hy137:(x131000_2++ [0]:List Int)=y137 at H;have Ny137:=q_ hy137.symm;clear hy137;have H':=q_ H;clear H
       go_wp2_with(((with_reducible refine gate_builtin (b:= .append) (xs:=#[.tmp 53, .tmp 55]) rfl ?_);at_builtin;refine Kd.R_append (Kd.int .i64) w.heap.size rfl (.tmp 53) (.tmp 55) 22 2 (.int .i64 0) 8 rfl Try.underlying22 info2 rfl (by decide) (by omega) u131000 x131000_2 0 [.int .i64 0] (fun k_=>(w.heap.size≤k_)) (fun _=>False) rfl rfl ?aP (fun _ hk=>hk.elim) ?aF ?aO (Below.refl _ _) ?aS ?aL ?_;(case aP=>exact rfl);(case aF=>exact(fun k_ hk=>(Nat.le_trans (ks2_ HK GW101 GW130) hk)));(case aO=>exact(ra_ HO_131000.o));(case aS=>exact(ks2_ HK GW101 GW130));(case aL=>have:=LMc97.o;omega);intro v138 w101 ho hb hg hat;rw[←Ny137.o]at ho;have HO139:=q_ (ho);replace BK101:=bg_ BK101 hg (Kd.R_ne HO_131000.o BK101.o (by decide));replace BK130:=bg_ BK130 hg (Kd.R_ne HO_131000.o BK130.o (by decide));replace HB:=q_ (below_weaken (be3_ HB.o (IsS149.ge HI0.o) GE101.o GE130.o) HL.o hb);replace HI0:=q_ (IsS149.grown (si2_ HI0 NB0_101 NB0_130) hg (IsS149.own_ne HI0.o HO_131000.o (by decide)));replace HK:=q_ (KeepBut.trans (kp2_ HK GW101 GW130) (KeepBut.of_grown hg g) (Kd.R_base2 HO_131000.o));clear HO_131000 ho hb hg hat;obtain⟨Ao102,co102,eo102⟩:=Kd.R_slice HO139.o;subst eo102;obtain⟨hcz103_0,hcz103_1,hcz103_2,hfz103_0,hfz103_1,hfz103_2⟩:=d3_ BK130))
       go_roundg k2
       case measure=>have:=HJ2.o;have:=HK2.o;omega
       case rel=>exact⟨(wrap64 (x9_2+1)),(y137),(.slice Ao102 y137.length co102),rs_,H',⟨by have:=HJ2.o;have:=HK2.o;omega⟩,⟨Kd.R_mono (rfR_ (Kd.R_types HO139.o BK130.o (by decide))) (fun _ hk=>hk.1)⟩,⟨by(with_reducible repeat(first|refine blk_drewN ?_ _|refine blk_drew ?_|refine blk_alloc ?_ _));refine blk_far ?_ NB101_130.o _;(with_reducible repeat(first|refine blk_drewN ?_ _|refine blk_drew ?_|refine blk_alloc ?_ _));exact BK101.o⟩,⟨by(with_reducible repeat(first|refine blk_drewN ?_ _|refine blk_drew ?_|refine blk_alloc ?_ _));refine blk_put (cs:=#[u131000, .slice none 0 0, .slice none 0 0]) ?_ 0 _ rfl;(with_reducible repeat(first|refine blk_drewN ?_ _|refine blk_drew ?_|refine blk_alloc ?_ _));exact BK130.o⟩,⟨si2_ HI0 NB0_101 NB0_130⟩,⟨kp2_ HK GW101 GW130⟩,⟨be3_ HB.o (IsS149.ge HI0.o) GE101.o GE130.o⟩⟩
      rw[if_pos c81]at H;have c81b0:decide (97≤x9_2)=true:=dt_ c81;clear c81;by_cases c82:x9_2<(wrap64 ((wrap64 (97+(wrap64 (1+t128))))-1));rotate_left
      ·rw[if_neg c82]at H;have c82b0:=df_ c82;clear c82;obtain⟨c90,H⟩:=ip_ H;have LMc90:=q_ c90;clear c90;generalize hy134:(x131000_2++ [0]:List Int)=y134 at H;have Ny134:=q_ hy134.symm;clear hy134;have H':=q_ H;clear H
       go_wp2_with(((with_reducible refine gate_builtin (b:= .append) (xs:=#[.tmp 53, .tmp 55]) rfl ?_);at_builtin;refine Kd.R_append (Kd.int .i64) w.heap.size rfl (.tmp 53) (.tmp 55) 22 2 (.int .i64 0) 8 rfl Try.underlying22 info2 rfl (by decide) (by omega) u131000 x131000_2 0 [.int .i64 0] (fun k_=>(w.heap.size≤k_)) (fun _=>False) rfl rfl ?aP (fun _ hk=>hk.elim) ?aF ?aO (Below.refl _ _) ?aS ?aL ?_;(case aP=>exact rfl);(case aF=>exact(fun k_ hk=>(Nat.le_trans (ks2_ HK GW101 GW130) hk)));(case aO=>exact(ra_ HO_131000.o));(case aS=>exact(ks2_ HK GW101 GW130));(case aL=>have:=LMc90.o;omega);intro v135 w94 ho hb hg hat;rw[←Ny134.o]at ho;have HO136:=q_ (ho);replace BK101:=bg_ BK101 hg (Kd.R_ne HO_131000.o BK101.o (by decide));replace BK130:=bg_ BK130 hg (Kd.R_ne HO_131000.o BK130.o (by decide));replace HB:=q_ (below_weaken (be3_ HB.o (IsS149.ge HI0.o) GE101.o GE130.o) HL.o hb);replace HI0:=q_ (IsS149.grown (si2_ HI0 NB0_101 NB0_130) hg (IsS149.own_ne HI0.o HO_131000.o (by decide)));replace HK:=q_ (KeepBut.trans (kp2_ HK GW101 GW130) (KeepBut.of_grown hg g) (Kd.R_base2 HO_131000.o));clear HO_131000 ho hb hg hat;obtain⟨Ao95,co95,eo95⟩:=Kd.R_slice HO136.o;subst eo95;obtain⟨hcz96_0,hcz96_1,hcz96_2,hfz96_0,hfz96_1,hfz96_2⟩:=d3_ BK130))
       go_roundg k2
       case measure=>have:=HJ2.o;have:=HK2.o;omega
       case rel=>exact⟨(wrap64 (x9_2+1)),(y134),(.slice Ao95 y134.length co95),rs_,H',⟨by have:=HJ2.o;have:=HK2.o;omega⟩,⟨Kd.R_mono (rfR_ (Kd.R_types HO136.o BK130.o (by decide))) (fun _ hk=>hk.1)⟩,⟨by(with_reducible repeat(first|refine blk_drewN ?_ _|refine blk_drew ?_|refine blk_alloc ?_ _));refine blk_far ?_ NB101_130.o _;(with_reducible repeat(first|refine blk_drewN ?_ _|refine blk_drew ?_|refine blk_alloc ?_ _));exact BK101.o⟩,⟨by(with_reducible repeat(first|refine blk_drewN ?_ _|refine blk_drew ?_|refine blk_alloc ?_ _));refine blk_put (cs:=#[u131000, .slice none 0 0, .slice none 0 0]) ?_ 0 _ rfl;(with_reducible repeat(first|refine blk_drewN ?_ _|refine blk_drew ?_|refine blk_alloc ?_ _));exact BK130.o⟩,⟨si2_ HI0 NB0_101 NB0_130⟩,⟨kp2_ HK GW101 GW130⟩,⟨be3_ HB.o (IsS149.ge HI0.o) GE101.o GE130.o⟩⟩
      rw[if_pos c82]at H;have c82b0:=dt_ c82;clear c82;obtain⟨c83,H⟩:=ip_ H;have LMc83:=q_ c83;clear c83;generalize hy131:(x131000_2++ [wrap64 (x9_2-96)]:List Int)=y131 at H;have Ny131:=q_ hy131.symm;clear hy131;have H':=q_ H;clear H
      go_wp2_with(((with_reducible refine gate_builtin (b:= .append) (xs:=#[.tmp 53, .tmp 55]) rfl ?_);at_builtin;refine Kd.R_append (Kd.int .i64) w.heap.size rfl (.tmp 53) (.tmp 55) 22 2 (.int .i64 0) 8 rfl Try.underlying22 info2 rfl (by decide) (by omega) u131000 x131000_2 (wrap64 (x9_2-96)) [.int .i64 (wrap64 (x9_2-96))] (fun k_=>(w.heap.size≤k_)) (fun _=>False) rfl rfl ?aP (fun _ hk=>hk.elim) ?aF ?aO (Below.refl _ _) ?aS ?aL ?_;(case aP=>exact rfl);(case aF=>exact(fun k_ hk=>(Nat.le_trans (ks2_ HK GW101 GW130) hk)));(case aO=>exact(ra_ HO_131000.o));(case aS=>exact(ks2_ HK GW101 GW130));(case aL=>have:=LMc83.o;omega);intro v132 w87 ho hb hg hat;rw[←Ny131.o]at ho;have HO133:=q_ (ho);replace BK101:=bg_ BK101 hg (Kd.R_ne HO_131000.o BK101.o (by decide));replace BK130:=bg_ BK130 hg (Kd.R_ne HO_131000.o BK130.o (by decide));replace HB:=q_ (below_weaken (be3_ HB.o (IsS149.ge HI0.o) GE101.o GE130.o) HL.o hb);replace HI0:=q_ (IsS149.grown (si2_ HI0 NB0_101 NB0_130) hg (IsS149.own_ne HI0.o HO_131000.o (by decide)));replace HK:=q_ (KeepBut.trans (kp2_ HK GW101 GW130) (KeepBut.of_grown hg g) (Kd.R_base2 HO_131000.o));clear HO_131000 ho hb hg hat;obtain⟨Ao88,co88,eo88⟩:=Kd.R_slice HO133.o;subst eo88;obtain⟨hcz89_0,hcz89_1,hcz89_2,hfz89_0,hfz89_1,hfz89_2⟩:=d3_ BK130))
      go_roundg k2
      case measure=>have:=HJ2.o;have:=HK2.o;omega
      case rel=>exact⟨(wrap64 (x9_2+1)),(y131),(.slice Ao88 y131.length co88),rs_,H',⟨by have:=HJ2.o;have:=HK2.o;omega⟩,⟨Kd.R_mono (rfR_ (Kd.R_types HO133.o BK130.o (by decide))) (fun _ hk=>hk.1)⟩,⟨by(with_reducible repeat(first|refine blk_drewN ?_ _|refine blk_drew ?_|refine blk_alloc ?_ _));refine blk_far ?_ NB101_130.o _;(with_reducible repeat(first|refine blk_drewN ?_ _|refine blk_drew ?_|refine blk_alloc ?_ _));exact BK101.o⟩,⟨by(with_reducible repeat(first|refine blk_drewN ?_ _|refine blk_drew ?_|refine blk_alloc ?_ _));refine blk_put (cs:=#[u131000, .slice none 0 0, .slice none 0 0]) ?_ 0 _ rfl;(with_reducible repeat(first|refine blk_drewN ?_ _|refine blk_drew ?_|refine blk_alloc ?_ _));exact BK130.o⟩,⟨si2_ HI0 NB0_101 NB0_130⟩,⟨kp2_ HK GW101 GW130⟩,⟨be3_ HB.o (IsS149.ge HI0.o) GE101.o GE130.o⟩⟩
     rw[if_neg c80]at H;have c80b0:=df_ c80;clear c80;obtain⟨ji104,hji104⟩:∃j_:Int,(mn 7 (wrap64 (1+(wrap64 ((s0_0.length:Int) / 5)))))=j_:=⟨_,rfl⟩;replace H:((spec_l1Rd_below.f s0_0 t129 (ji104)).bind fun bt140=>(spec_l1Rd_dfa.l1 k2 (wrap64 (1+t128)) (wrap64 (1+bt140.1)) 0 s0_0 bt140.2 x131000_2 ([]:List (List Int)) ([]:List Int)))=some (r1,r2,r3,r4):=by(rw[hji104]at H;exact H)
     have hji104_:(if(wrap64 (1+(wrap64 ((s0_0.length:Int) / 5))))<7 then(wrap64 (1+(wrap64 ((s0_0.length:Int) / 5))))else 7)=ji104:=hji104;replace H:=Option.bind_eq_some_iff.mp H;obtain⟨⟨t140,t141⟩,A1050,H⟩:=H;dsimp only at H;have A105:=q_ A1050;clear A1050;have H':=q_ H;clear H;obtain⟨ASz106_0,cSz106_0,HGz106,hgz106,HSz106_0⟩:=HI0.o;have hcz106_0:=cellS149_0 HGz106;have hcz106_1:=cellS149_1 HGz106;have hfz106_1:=blk_frozen HGz106 1;clear HGz106 hgz106
     go_wp2_with(((with_reducible refine gate_callee (f:=66) rfl ?_);refine goesL_ (some 67) rfl rfl Try.func66 (by kernel_rfl) rfl #[.pointer (some ⟨g,0,none⟩), .int .i64 ji104] rfl (by(try simp only[List.map_toArray,List.map_cons,List.map_nil]);first|done| (simp only[hji104];rfl)|rfl| (simp only[List.length_drop,List.length_take];rfl)) ?_;(with_reducible refine(spec_l1Rd_below.calls g s0_0 t129 ji104 t140 t141 w0 _ ?side1 ?side2 A105.o).mono ?_);(case side1=>exact si2_ HI0 NB0_101 NB0_130);(case side2=>exact be3_ HB.o (IsS149.ge HI0.o) GE101.o GE130.o);rintro e w107 ⟨rfl,hi,hb,hk⟩;refine⟨_,rfl,?_⟩;replace HO_131000:=q_ (Kd.R_mono (Kd.R_keep (IsS149.apart (show IsS149 w0 _ g s0_0 t129 from si2_ HI0 NB0_101 NB0_130) (ra_ HO_131000.o) (by decide)) hk (fun _ h=>h.2)) (fun _ h=>h.1));replace BK101:=kbk_ hk BK101 NB101_0;replace BK130:=kbk_ hk BK130 NB130_0;replace HK:=kt2_ HK GW101 GW130 hk;replace HB:=q_ (hb);replace HI0:=q_ (hi);clear hb))
     go_loopg [12] k2 (fun kq v12 w'=>∃(x12_3:Int) (x1001_3:Int) (x131001_3:List (List Int)) (x131002_3:List Int) (u131001:Value) (u131002:Value),v12= .int .i64 x12_3∧J0 (spec_l1Rd_dfa.l1 kq (wrap64 (1+t128)) (wrap64 (1+t140)) x12_3 s0_0 x1001_3 x131000_2 x131001_3 x131002_3=some (r1,r2,r3,r4))∧J0 (kq≤k2)∧J0 (Kd.R (Kd.int .i64) 2 w' w.heap.size (fun k_=>(w.heap.size≤k_)∧some k_≠(u131002:Value).ownBlock) u131000 x131000_2)∧J0 (Kd.N (Kd.slice 2 (Kd.int .i64)) 22 w' w.heap.size (fun k_=>(w.heap.size≤k_)∧some k_≠(u131000:Value).ownBlock∧some k_≠(u131002:Value).ownBlock∧k_≠gb101∧k_≠gb130∧k_≠g) u131001 x131001_3)∧J0 (Kd.R (Kd.int .i64) 2 w' w.heap.size (fun k_=>(w.heap.size≤k_)∧some k_≠(u131000:Value).ownBlock) u131002 x131002_3)∧J0 (w'.heap[gb101]? =some (.cells #[(.slice none 0 0),(.slice none 0 0),(.slice none 0 0)] 32 (0,0)))∧J0 (w'.heap[gb130]? =some (.cells #[u131000,u131001,u131002] 32 (0,0)))∧J0 (IsS149 w0 w' g s0_0 x1001_3)∧J0 (KeepBut w w' g none)∧J0 (Below w0.heap.size w0 w'))
     case atStart=>exact⟨(0),(t141),(([]:List (List Int))),(([]:List Int)),(.slice none 0 0),(.slice none 0 0),rs_,H',⟨Nat.le_refl _⟩,⟨mR_ HO_131000 (fun _ hk=>⟨hk,(by simp[Value.ownBlock])⟩)⟩,⟨by exact Kd.N_nil _ _ _ _ _⟩,⟨by exact Kd.R_nil _ _ _ _ _⟩,⟨bk_ BK101.o⟩,⟨bk_ BK130.o⟩,⟨si2_ HI0 NB0_101 NB0_130⟩,⟨kp2_ HK GW101 GW130⟩,⟨be3_ HB.o (IsS149.ge HI0.o) GE101.o GE130.o⟩⟩
     case round=>
      clear H';clear c80b0 hcz106_0 hcz106_1 hfz106_1;obtain⟨x12_3,x1001_3,x131001_3,x131002_3,u131001,u131002,rfl,HA,HK3,HO_131000,HO_131001,HO_131002,BK101,BK130,HI0,HK,HB⟩:=hrel;cases gk with
      |zero=>exact absurd HA.o (by simp[spec_l1Rd_dfa.l1])
      | succ k3=>
       have H:=HA.o;clear HA;simp only[spec_l1Rd_dfa.l1]at H;by_cases c108:x12_3<(wrap64 (1+t140));rotate_left
       ·rw[if_neg c108]at H;have c108b0:=df_ c108;clear c108;simp only[Option.some.injEq,Prod.mk.injEq]at H;obtain⟨rfl,rfl,rfl,rfl⟩:=H;have hnb132:=NB130_101.o;have hnc132:=NB101_130.o;have hnb133:=NB130_0.o;have hnc133:=NB0_130.o;obtain⟨hcz134_0,hcz134_1,hcz134_2,hfz134_0,hfz134_1,hfz134_2⟩:=d3_ BK130;obtain⟨Ao135,co135,eo135⟩:=Kd.R_slice HO_131000.o;subst eo135;have hnb136:=NB101_0.o;have hnc136:=NB0_101.o;obtain⟨hcz137_0,hcz137_1,hcz137_2,hfz137_0,hfz137_1,hfz137_2⟩:=d3_ BK101;obtain⟨Ao138,co138,eo138⟩:=Kd.N_slice HO_131001.o;subst eo138;obtain⟨Ao139,co139,eo139⟩:=Kd.R_slice HO_131002.o;subst eo139;go_wp2
        refine bodyPost_ret (results_cell_row rfl _ _ gb101 32 #[.slice Ao135 x131000_2.length co135, .slice Ao138 x131001_3.length co138, .slice Ao139 x131002_3.length co139] (0,0) _ rfl (bp_ BK101) Try.underlying32 rfl (by kernel_rfl)) rfl ?_;exact⟨_,_,_,by rfl,by(with_reducible repeat(first|apply Kd.R_alloc|apply Kd.R_drewN|apply Kd.R_drew));exact Kd.R_mono (rfR_ (Kd.R_types HO_131000.o BK101.o (by decide))) (fun _ hk=>⟨hk.1.1,hk.1.2⟩),by(with_reducible repeat(first|apply Kd.N_alloc|apply Kd.N_drewN|apply Kd.N_drew));exact Kd.N_mono (rfN_ (Kd.N_mono HO_131001.o (fun k_ hk=>(⟨hk,hk.2.2.2.1⟩:_∧k_≠gb101)))) (fun _ hk=>⟨hk.1.1,⟨hk.1.2.1,hk.1.2.2.1⟩⟩),by(with_reducible repeat(first|apply Kd.R_alloc|apply Kd.R_drewN|apply Kd.R_drew));exact Kd.R_mono (rfR_ (Kd.R_types HO_131002.o BK101.o (by decide))) (fun _ hk=>⟨hk.1.1,hk.1.2⟩),si2_ HI0 NB0_101 NB0_130,be3_ HB.o (IsS149.ge HI0.o) GE101.o GE130.o,kp2_ HK GW101 GW130⟩
       rw[if_pos c108]at H;have c108b0:=dt_ c108;clear c108;generalize hy142:([]:List Int)=y142 at H;have Ny142:=q_ hy142.symm;clear hy142;have H':=q_ H;clear H
       go_wp2_with(((with_reducible refine gate_dst (N:=74) rfl ?_);refine Kd.R_lit (Kd.int .i64) _ 2 ?hg (N:=74) ?hd (xs:=([]:List Int)) (inner:=[]) (ok:=fun _=>True) (okp:=fun _=>True) ?hr ?hp (fun _ hk=>hk) trivial (Below.refl _ _) (Nat.le_refl _) (by simp) ?_;(case hd=>rfl);(case hg=>rfl);(case hr=>first| (go_simp;done)| (go_simp;rfl));(case hp=>exact(Reps.none _ _));intro v143 w109 ho110 hb hg_ hnew_;clear hg_ hnew_;(rw[←Ny142.o]at ho110);have HO144:=q_ (Kd.R_lower (Kd.R_new' (Kd.R_new' (Kd.R_newM (M:=fun k_=>(w.heap.size≤k_)) ho110 (ks2_ HK GW101 GW130) (fun k_ h_=>h_)) (Kd.R_lt (ra_ HO_131000.o))) (Kd.R_lt (ra_ HO_131002.o))) (ks2_ HK GW101 GW130));replace HO_131000:=eR_ HO_131000 (Kd.R_base ho110) hb;replace HO_131001:=eN_ HO_131001 (Kd.R_base ho110) hb;replace HO_131002:=eR_ HO_131002 (Kd.R_base ho110) hb;replace BK101:=lb_ BK101 hb;replace BK130:=lb_ BK130 hb;replace HK:=kb2_ HK GW101 GW130 hb;replace HB:=q_ (below_step (be3_ HB.o (IsS149.ge HI0.o) GE101.o GE130.o) hb);replace HI0:=ib2_ HI0 NB0_101 NB0_130 hb;clear hb ho110))
       go_loopg [13,14] k3 (fun kq v13 v14 w'=>∃(x13_4:List Int) (x14_4:Int) (x1001_4:Int),v14= .int .i64 x14_4∧J0 (spec_l1Rd_dfa.l2 kq (wrap64 (1+t128)) (wrap64 (1+t140)) x12_3 x13_4 x14_4 s0_0 x1001_4 x131000_2 x131001_3 x131002_3=some (r1,r2,r3,r4))∧J0 (kq≤k3)∧J0 (Kd.R (Kd.int .i64) 2 w' w.heap.size (fun k_=>(w.heap.size≤k_)∧some k_≠(u131000:Value).ownBlock∧some k_≠(u131002:Value).ownBlock) v13 x13_4)∧J0 (Kd.R (Kd.int .i64) 2 w' w.heap.size (fun k_=>(w.heap.size≤k_)∧some k_≠(v13:Value).ownBlock∧some k_≠(u131002:Value).ownBlock) u131000 x131000_2)∧J0 (Kd.N (Kd.slice 2 (Kd.int .i64)) 22 w' w.heap.size (fun k_=>(w.heap.size≤k_)∧some k_≠(v13:Value).ownBlock∧some k_≠(u131000:Value).ownBlock∧some k_≠(u131002:Value).ownBlock∧k_≠gb101∧k_≠gb130∧k_≠g) u131001 x131001_3)∧J0 (Kd.R (Kd.int .i64) 2 w' w.heap.size (fun k_=>(w.heap.size≤k_)∧some k_≠(v13:Value).ownBlock∧some k_≠(u131000:Value).ownBlock) u131002 x131002_3)∧J0 (w'.heap[gb101]? =some (.cells #[(.slice none 0 0),(.slice none 0 0),(.slice none 0 0)] 32 (0,0)))∧J0 (w'.heap[gb130]? =some (.cells #[u131000,u131001,u131002] 32 (0,0)))∧J0 (IsS149 w0 w' g s0_0 x1001_4)∧J0 (KeepBut w w' g none)∧J0 (Below w0.heap.size w0 w'))
       case atStart=>exact⟨(y142),(0),(x1001_3),rs_,H',⟨Nat.le_refl _⟩,⟨mR_ HO144 (fun _ hk=>⟨hk.1.1.1,⟨hk.1.2,hk.2⟩⟩)⟩,⟨mR_ HO_131000 (fun _ hk=>⟨hk.1.1,⟨hk.2,hk.1.2⟩⟩)⟩,⟨mN_ HO_131001 (fun _ hk=>⟨hk.1.1,⟨hk.2,⟨hk.1.2.1,⟨hk.1.2.2.1,⟨hk.1.2.2.2.1,⟨hk.1.2.2.2.2.1,hk.1.2.2.2.2.2⟩⟩⟩⟩⟩⟩)⟩,⟨mR_ HO_131002 (fun _ hk=>⟨hk.1.1,⟨hk.2,hk.1.2⟩⟩)⟩,⟨bk_ BK101.o⟩,⟨bk_ BK130.o⟩,⟨si2_ HI0 NB0_101 NB0_130⟩,⟨kp2_ HK GW101 GW130⟩,⟨be3_ HB.o (IsS149.ge HI0.o) GE101.o GE130.o⟩⟩
       case round=>
        clear H';clear c108b0;obtain⟨x13_4,x14_4,x1001_4,rfl,HA,HK4,HO_13,HO_131000,HO_131001,HO_131002,BK101,BK130,HI0,HK,HB⟩:=hrel;cases gk with
        |zero=>exact absurd HA.o (by simp[spec_l1Rd_dfa.l2])
        | succ k4=>
         have H:=HA.o;clear HA;simp only[spec_l1Rd_dfa.l2]at H;by_cases c111:x14_4<(wrap64 (1+t128))
         ·rw[if_pos c111]at H;have c111b0:=dt_ c111;clear c111;replace H:=Option.bind_eq_some_iff.mp H;obtain⟨⟨t145,t146⟩,A1120,H⟩:=H;dsimp only at H;have A112:=q_ A1120;clear A1120;obtain⟨c113,H⟩:=ip_ H;have LMc113:=q_ c113;clear c113;generalize hy147:(x13_4++ [t145]:List Int)=y147 at H;have Ny147:=q_ hy147.symm;clear hy147;have H':=q_ H;clear H
          go_wp2_with(first| ((with_reducible refine gate_callee (f:=66) rfl ?_);refine gl_ (some 83) rfl rfl Try.func66 #[.pointer (some ⟨g,0,none⟩), .int .i64 (wrap64 (1+t140))] ?_;(with_reducible refine(spec_l1Rd_below.calls g s0_0 x1001_4 (wrap64 (1+t140)) t145 t146 w0 _ ?side1 ?side2 A112.o).mono ?_);(case side1=>exact si2_ HI0 NB0_101 NB0_130);(case side2=>exact be3_ HB.o (IsS149.ge HI0.o) GE101.o GE130.o);rintro e w114 ⟨rfl,hi,hb,hk⟩;refine⟨_,rfl,?_⟩;replace HO_13:=q_ (Kd.R_mono (Kd.R_keep (IsS149.apart (show IsS149 w0 _ g s0_0 x1001_4 from si2_ HI0 NB0_101 NB0_130) (ra_ HO_13.o) (by decide)) hk (fun _ h=>h.2)) (fun _ h=>h.1));replace HO_131000:=q_ (Kd.R_mono (Kd.R_keep (IsS149.apart (show IsS149 w0 _ g s0_0 x1001_4 from si2_ HI0 NB0_101 NB0_130) (ra_ HO_131000.o) (by decide)) hk (fun _ h=>h.2)) (fun _ h=>h.1));replace HO_131001:=q_ (Kd.N_mono (Kd.N_keep (Kd.N_mono (ok:=fun k_=>(((w.heap.size≤k_))∧(some k_≠(u13:Value).ownBlock∧(some k_≠(u131000:Value).ownBlock∧(some k_≠(u131002:Value).ownBlock∧(k_≠gb101∧(k_≠gb130∧k_≠g))))))) (na_ HO_131001.o) (fun k_ hk_=>(⟨hk_,hk_.2.2.2.2.2.2⟩:_∧k_≠g))) hk (fun _ h=>h.2)) (fun _ h=>h.1));replace HO_131002:=q_ (Kd.R_mono (Kd.R_keep (IsS149.apart (show IsS149 w0 _ g s0_0 x1001_4 from si2_ HI0 NB0_101 NB0_130) (ra_ HO_131002.o) (by decide)) hk (fun _ h=>h.2)) (fun _ h=>h.1));replace BK101:=kbk_ hk BK101 NB101_0;replace BK130:=kbk_ hk BK130 NB130_0;replace HK:=kt2_ HK GW101 GW130 hk;replace HB:=q_ (hb);replace HI0:=q_ (hi);clear hb)| ((with_reducible refine gate_builtin (b:= .append) (xs:=#[.tmp 80, .tmp 84]) rfl ?_);at_builtin;refine Kd.R_append (Kd.int .i64) w.heap.size rfl (.tmp 80) (.tmp 84) 22 2 (.int .i64 0) 8 rfl Try.underlying22 info2 rfl (by decide) (by omega) u13 x13_4 t145 [.int .i64 t145] (fun k_=>(w.heap.size≤k_)∧some k_≠(u131000:Value).ownBlock∧some k_≠(u131002:Value).ownBlock) (fun _=>False) rfl rfl ?aP (fun _ hk=>hk.elim) ?aF ?aO (Below.refl _ _) ?aS ?aL ?_;(case aP=>exact rfl);(case aF=>exact(fun k_ hk=>⟨(Nat.le_trans (ks2_ HK GW101 GW130) hk),Kd.fresh' (Kd.R_lt (ra_ HO_131000.o)) k_ hk,Kd.fresh' (Kd.R_lt (ra_ HO_131002.o)) k_ hk⟩));(case aO=>exact(ra_ HO_13.o));(case aS=>exact(ks2_ HK GW101 GW130));(case aL=>have:=LMc113.o;omega);intro v148 w115 ho hb hg hat;rw[←Ny147.o]at ho;have HO149:=q_ (ho);replace HO_131000:=q_ (Kd.R_after (ok:=(fun k_=>(w.heap.size≤k_)∧some k_≠(u131002:Value).ownBlock)) (mR_ HO_131000 (fun _ hk=>⟨⟨hk.1,hk.2.2⟩,hk.2.1⟩)) hg hat);replace HO_131001:=q_ (Kd.N_afterv (ok:=(fun k_=>(w.heap.size≤k_)∧some k_≠(u131000:Value).ownBlock∧some k_≠(u131002:Value).ownBlock∧k_≠gb101∧k_≠gb130∧k_≠g)) (mN_ HO_131001 (fun _ hk=>⟨⟨hk.1,⟨hk.2.2.1,⟨hk.2.2.2.1,⟨hk.2.2.2.2.1,⟨hk.2.2.2.2.2.1,hk.2.2.2.2.2.2⟩⟩⟩⟩⟩,hk.2.1⟩)) hg hat);replace HO_131002:=q_ (Kd.R_after (ok:=(fun k_=>(w.heap.size≤k_)∧some k_≠(u131000:Value).ownBlock)) (mR_ HO_131002 (fun _ hk=>⟨⟨hk.1,hk.2.2⟩,hk.2.1⟩)) hg hat);replace BK101:=bg_ BK101 hg (Kd.R_ne HO_13.o BK101.o (by decide));replace BK130:=bg_ BK130 hg (Kd.R_ne HO_13.o BK130.o (by decide));replace HB:=q_ (below_weaken (be3_ HB.o (IsS149.ge HI0.o) GE101.o GE130.o) HL.o hb);replace HI0:=q_ (IsS149.grown (si2_ HI0 NB0_101 NB0_130) hg (IsS149.own_ne HI0.o HO_13.o (by decide)));replace HK:=q_ (KeepBut.trans (kp2_ HK GW101 GW130) (KeepBut.of_grown hg g) (Kd.R_base2 HO_13.o));clear HO_13 ho hb hg hat))
          go_roundg k4
          case measure=>have:=HJ2.o;have:=HK2.o;have:=HK3.o;have:=HK4.o;omega
          case rel=>exact⟨(y147),(wrap64 (x14_4+1)),(t146),rs_,H',⟨by have:=HJ2.o;have:=HK2.o;have:=HK3.o;have:=HK4.o;omega⟩,⟨ra_ HO149.o⟩,⟨mR_ HO_131000 (fun _ hk=>⟨hk.1.1,⟨hk.2,hk.1.2⟩⟩)⟩,⟨mN_ HO_131001 (fun _ hk=>⟨hk.1.1,⟨hk.2,⟨hk.1.2.1,⟨hk.1.2.2.1,⟨hk.1.2.2.2.1,⟨hk.1.2.2.2.2.1,hk.1.2.2.2.2.2⟩⟩⟩⟩⟩⟩)⟩,⟨mR_ HO_131002 (fun _ hk=>⟨hk.1.1,⟨hk.2,hk.1.2⟩⟩)⟩,⟨bk_ BK101.o⟩,⟨bk_ BK130.o⟩,⟨si2_ HI0 NB0_101 NB0_130⟩,⟨kp2_ HK GW101 GW130⟩,⟨be3_ HB.o (IsS149.ge HI0.o) GE101.o GE130.o⟩⟩
         rw[if_neg c111]at H;have c111b0:=df_ c111;clear c111;obtain⟨c116,H⟩:=ip_ H;have LMc116:=q_ c116;clear c116;generalize hy150:(x131001_3++ [x13_4]:List (List Int))=y150 at H;have Ny150:=q_ hy150.symm;clear hy150;replace H:=Option.bind_eq_some_iff.mp H;obtain⟨⟨t153,t154⟩,A1170,H⟩:=H;dsimp only at H;have A117:=q_ A1170;clear A1170;obtain⟨c118,H⟩:=ip_ H;have LMc118:=q_ c118;clear c118;generalize hy155:(x131002_3++ [wrap64 (t153-1)]:List Int)=y155 at H;have Ny155:=q_ hy155.symm;clear hy155;have H':=q_ H;clear H;have hnb119:=NB130_101.o;have hnc119:=NB101_130.o;have hnb120:=NB130_0.o;have hnc120:=NB0_130.o;obtain⟨hcz121_0,hcz121_1,hcz121_2,hfz121_0,hfz121_1,hfz121_2⟩:=d3_ BK130;obtain⟨Ao123,co123,eo123⟩:=Kd.R_slice HO_13.o;subst eo123
         try go_wp2_with(((with_reducible refine gate_builtin (b:= .append) (xs:=#[.tmp 87, .tmp 89]) rfl ?_);at_builtin;refine Kd.N_append (Kd.slice 2 (Kd.int .i64)) w.heap.size rfl (.tmp 87) (.tmp 89) 23 22 (.slice none 0 0) 24 rfl Try.underlying23 info22 rfl (by decide) (by omega) u131001 x131001_3 x13_4 [.slice Ao123 x13_4.length co123] (fun k_=>(w.heap.size≤k_)∧some k_≠(u131000:Value).ownBlock∧some k_≠(u131002:Value).ownBlock∧k_≠gb101∧k_≠gb130∧k_≠g) (fun k_=>((fun k_=>(w.heap.size≤k_)∧some k_≠(u131000:Value).ownBlock∧some k_≠(u131002:Value).ownBlock∧k_≠gb101∧k_≠gb130∧k_≠g)) k_∧some k_≠(u131001:Value).ownBlock) rfl rfl ?aP (fun _ hk=>hk) ?aF ?aO (Below.refl _ _) ?aS ?aL ?_;(case aP=>exact(Kd.FK_slice_mk (Kd.R_reads' (Kd.R_mono (ok':=(fun k_=>((fun k_=>(w.heap.size≤k_)∧some k_≠(u131000:Value).ownBlock∧some k_≠(u131002:Value).ownBlock∧k_≠gb101∧k_≠gb130∧k_≠g)) k_∧some k_≠(u131001:Value).ownBlock)) (IsS149.apart HI0.o (Kd.R_types (Kd.R_types (Kd.R_apart' (HO_13.o) (Kd.N_typed HO_131001.o) (by decide)) BK101.o (by decide)) BK130.o (by decide)) (by decide)) (fun k_ hk=>⟨⟨hk.1.1.1.1.1,⟨hk.1.1.1.1.2.1,⟨hk.1.1.1.1.2.2,⟨hk.1.1.2,⟨hk.1.2,hk.2⟩⟩⟩⟩⟩,hk.1.1.1.2⟩))).2.1 (Kd.R_F (Kd.R_mono (ok':=(fun k_=>((fun k_=>(w.heap.size≤k_)∧some k_≠(u131000:Value).ownBlock∧some k_≠(u131002:Value).ownBlock∧k_≠gb101∧k_≠gb130∧k_≠g)) k_∧some k_≠(u131001:Value).ownBlock)) (IsS149.apart HI0.o (Kd.R_types (Kd.R_types (Kd.R_apart' (HO_13.o) (Kd.N_typed HO_131001.o) (by decide)) BK101.o (by decide)) BK130.o (by decide)) (by decide)) (fun k_ hk=>⟨⟨hk.1.1.1.1.1,⟨hk.1.1.1.1.2.1,⟨hk.1.1.1.1.2.2,⟨hk.1.1.2,⟨hk.1.2,hk.2⟩⟩⟩⟩⟩,hk.1.1.1.2⟩)))));(case aF=>exact(fun k_ hk=>⟨(Nat.le_trans (ks2_ HK GW101 GW130) hk),Kd.fresh' (Kd.R_lt (ra_ HO_131000.o)) k_ hk,Kd.fresh' (Kd.R_lt (ra_ HO_131002.o)) k_ hk,fb_ BK101 hk,fb_ BK130 hk,IsS149.fresh (si2_ HI0 NB0_101 NB0_130) k_ hk⟩));(case aO=>exact(mN_ HO_131001 (fun _ hk=>⟨hk.1,⟨hk.2.2.1,⟨hk.2.2.2.1,⟨hk.2.2.2.2.1,⟨hk.2.2.2.2.2.1,hk.2.2.2.2.2.2⟩⟩⟩⟩⟩)));(case aS=>exact(ks2_ HK GW101 GW130));(case aL=>have:=LMc116.o;omega);intro v151 w122 ho hb hg hat;rw[←Ny150.o]at ho;have HO152:=q_ (ho);replace HO_131000:=q_ (Kd.R_over' (ra_ HO_131000.o) (Kd.N_typed (na_ HO_131001.o)) (by decide) hg);replace HO_131002:=q_ (Kd.R_over' (ra_ HO_131002.o) (Kd.N_typed (na_ HO_131001.o)) (by decide) hg);replace BK101:=bg_ BK101 hg (Kd.N_ne HO_131001.o BK101.o (by decide));replace BK130:=bg_ BK130 hg (Kd.N_ne HO_131001.o BK130.o (by decide));replace HB:=q_ (below_weaken (be3_ HB.o (IsS149.ge HI0.o) GE101.o GE130.o) HL.o hb);replace HI0:=q_ (IsS149.grown (si2_ HI0 NB0_101 NB0_130) hg (IsS149.own_neN HI0.o HO_131001.o (by decide)));replace HK:=q_ (KeepBut.trans (kp2_ HK GW101 GW130) (KeepBut.of_grown hg g) (Kd.N_base2 HO_131001.o));clear HO_131001 HO_13 ho hb hg hat;obtain⟨Ao124,co124,eo124⟩:=Kd.N_slice HO152.o;subst eo124;obtain⟨hcz125_0,hcz125_1,hcz125_2,hfz125_0,hfz125_1,hfz125_2⟩:=d3_ BK130))
         have n0_:J0 (Kd.R (Kd.int .i64) 2 (w122.setCell ⟨gb130,1,none⟩ (.slice Ao124 y150.length co124)) w.heap.size (fun k_=>(w.heap.size≤k_)∧some k_≠(u131002:Value).ownBlock) u131000 x131000_2):=⟨Kd.R_mono (rfR_ (Kd.R_types HO_131000.o BK130.o (by decide))) (fun _ hk=>⟨hk.1.1,hk.1.2.2⟩)⟩;have n1_:J0 (Kd.R (Kd.int .i64) 2 (w122.setCell ⟨gb130,1,none⟩ (.slice Ao124 y150.length co124)) w.heap.size (fun k_=>(w.heap.size≤k_)∧some k_≠(u131000:Value).ownBlock) u131002 x131002_3):=⟨Kd.R_mono (rfR_ (Kd.R_types HO_131002.o BK130.o (by decide))) (fun _ hk=>⟨hk.1.1,hk.1.2.2⟩)⟩;have n2_:J0 (Kd.N (Kd.slice 2 (Kd.int .i64)) 22 (w122.setCell ⟨gb130,1,none⟩ (.slice Ao124 y150.length co124)) w.heap.size (fun k_=>(w.heap.size≤k_)∧some k_≠(u131000:Value).ownBlock∧some k_≠(u131002:Value).ownBlock∧k_≠gb101∧k_≠gb130∧k_≠g) (.slice Ao124 y150.length co124) y150):=⟨Kd.N_mono (rfN_ (Kd.N_mono HO152.o (fun k_ hk=>(⟨hk,hk.2.2.2.2.1⟩:_∧k_≠gb130)))) (fun _ hk=>⟨hk.1.1,⟨hk.1.2.1,⟨hk.1.2.2.1,⟨hk.1.2.2.2.1,⟨hk.1.2.2.2.2.1,hk.1.2.2.2.2.2⟩⟩⟩⟩⟩)⟩;have n3_:J0 ((w122.setCell ⟨gb130,1,none⟩ (.slice Ao124 y150.length co124)).heap[gb101]? =some (.cells #[.slice none 0 0, .slice none 0 0, .slice none 0 0] 32 (0,0))):=⟨by(with_reducible repeat(first|refine blk_drewN ?_ _|refine blk_drew ?_|refine blk_alloc ?_ _));refine blk_far ?_ NB101_130.o _;(with_reducible repeat(first|refine blk_drewN ?_ _|refine blk_drew ?_|refine blk_alloc ?_ _));exact BK101.o⟩;have n4_:J0 ((w122.setCell ⟨gb130,1,none⟩ (.slice Ao124 y150.length co124)).heap[gb130]? =some (.cells #[u131000, .slice Ao124 y150.length co124,u131002] 32 (0,0))):=⟨by(with_reducible repeat(first|refine blk_drewN ?_ _|refine blk_drew ?_|refine blk_alloc ?_ _));refine blk_put (cs:=#[u131000,u131001,u131002]) ?_ 1 _ rfl;(with_reducible repeat(first|refine blk_drewN ?_ _|refine blk_drew ?_|refine blk_alloc ?_ _));exact BK130.o⟩;have n5_:J0 (IsS149 w0 (w122.setCell ⟨gb130,1,none⟩ (.slice Ao124 y150.length co124)) g s0_0 x1001_4):=⟨si2_ HI0 NB0_101 NB0_130⟩;have n6_:J0 (KeepBut w (w122.setCell ⟨gb130,1,none⟩ (.slice Ao124 y150.length co124)) g none):=⟨kp2_ HK GW101 GW130⟩;have n7_:J0 (Below w0.heap.size w0 (w122.setCell ⟨gb130,1,none⟩ (.slice Ao124 y150.length co124))):=⟨be3_ HB.o (IsS149.ge HI0.o) GE101.o GE130.o⟩;clear HO_131000;clear HO_131002;clear HO152;clear BK101;clear BK130;clear HI0;clear HK;clear HB;generalize(w122.setCell ⟨gb130,1,none⟩ (.slice Ao124 y150.length co124))=w126 at n0_ n1_ n2_ n3_ n4_ n5_ n6_ n7_ ⊢;have HO_131000:=n0_;have HO_131002:=n1_;have HO152:=n2_;have BK101:=n3_;have BK130:=n4_;have HI0:=n5_;have HK:=n6_;have HB:=n7_;clear n0_ n1_ n2_ n3_ n4_ n5_ n6_ n7_;replace HO_131000:=q_ (Kd.R_drew HO_131000.o);replace HO_131002:=q_ (Kd.R_drew HO_131002.o);replace HO152:=q_ (Kd.N_drew HO152.o);replace BK101:=q_ (blk_drew BK101.o);replace BK130:=q_ (blk_drew BK130.o);replace HI0:=q_ (IsS149.drew HI0.o);replace HK:=q_ (keep_drew HK.o);replace HB:=q_ (below_drew1 HB.o);refine start_ (n:=9) (S:=fun w'=>w'.cell? ⟨gb130,0,none⟩=some (u131000)∧w'.cell? ⟨gb130,1,none⟩=some (.slice Ao124 y150.length co124)∧w'.cell? ⟨gb130,2,none⟩=some (u131002)) (ds:=[8]) (bb 9 0) (by kernel_rfl) rfl rfl ⟨(blk_cell BK130.o 0).trans rfl,(blk_cell BK130.o 1).trans rfl,(blk_cell BK130.o 2).trans rfl⟩ (fun hHeld=>?_);refine with_tabW spec_l1Rd_dfa.tab25 spec_l1Rd_dfa.bits25 (fun HT_ HW_=>?_);generalize w126.drew=w127 at HO_131000 HO_131002 HO152 BK101 BK130 HI0 HK HB hHeld ⊢;refine pv_ 0 92 1 HT_.o ?_;refine pv_ 2 94 5 HT_.o ?_;refine tv_ 1 93 7 HT_.o HW_.o hHeld ?_;refine one_ (i:=3) (N:=some 95) (bb 9 15) rfl rfl (one_of HT_.o (by kernel_rfl)) (by decide) (fun K hK=>?_);refine gs_ Try.func66 #[.pointer (some ⟨g,0,none⟩), .int .i64 4] ?_
         with_reducible refine(spec_l1Rd_below.calls g s0_0 x1001_4 4 t153 t154 w0 _ ?side1 ?side2 A117.o).mono ?_
         (case side1=>exact si2_ HI0 NB0_101 NB0_130);(case side2=>exact be3_ HB.o (IsS149.ge HI0.o) GE101.o GE130.o);rintro e w128 ⟨rfl,hi,hb,hk⟩;refine⟨_,rfl,?_⟩;replace HO_131000:=q_ (Kd.R_mono (Kd.R_keep (IsS149.apart (show IsS149 w0 _ g s0_0 x1001_4 from si2_ HI0 NB0_101 NB0_130) (ra_ HO_131000.o) (by decide)) hk (fun _ h=>h.2)) (fun _ h=>h.1));replace HO_131002:=q_ (Kd.R_mono (Kd.R_keep (IsS149.apart (show IsS149 w0 _ g s0_0 x1001_4 from si2_ HI0 NB0_101 NB0_130) (ra_ HO_131002.o) (by decide)) hk (fun _ h=>h.2)) (fun _ h=>h.1));replace BK101:=kbk_ hk BK101 NB101_0;replace BK130:=kbk_ hk BK130 NB130_0;replace HO152:=q_ (Kd.N_mono (Kd.N_keep (Kd.N_mono (ok:=fun k_=>(((w.heap.size≤k_))∧(some k_≠(u131000:Value).ownBlock∧(some k_≠(u131002:Value).ownBlock∧(k_≠gb101∧(k_≠gb130∧k_≠g)))))) (na_ HO152.o) (fun k_ hk_=>(⟨hk_,hk_.2.2.2.2.2⟩:_∧k_≠g))) hk (fun _ h=>h.2)) (fun _ h=>h.1));replace HK:=kt2_ HK GW101 GW130 hk;replace HB:=q_ (hb);replace HI0:=q_ (hi);clear hb;clear hk;clear hi;refine hK.out _ _ ⟨(blk_cell BK130.o 0).trans rfl,(blk_cell BK130.o 1).trans rfl,(blk_cell BK130.o 2).trans rfl⟩ (fun hHeld=>?_);clear hK K;refine no_ (some 95) ?_;refine pv_ 4 96 31 HT_.o ?_;refine one_ (i:=5) (N:=some 97) (bb 9 63) rfl rfl (one_of HT_.o (by kernel_rfl)) (by decide) (fun K hK=>?_);refine value_ (w1:=?_) (v:=?_) (by rfl) rfl ?_ ?_;rotate_left 2
         ·go_simp
          constructor
          ·rfl
          ·rfl
         refine hK.out _ _ ⟨(blk_cell (blk_alloc BK130.o _) 0).trans rfl,(blk_cell (blk_alloc BK130.o _) 1).trans rfl,(blk_cell (blk_alloc BK130.o _) 2).trans rfl⟩ (fun hHeld=>?_);clear hK K;refine no_ (some 97) ?_;refine one_ (i:=6) (N:=some 98) (bb 9 127) rfl rfl (one_of HT_.o (by kernel_rfl)) (by decide) (fun K hK=>?_);refine Kd.R_append_step (Kd.int .i64) w.heap.size (by rfl) (.tmp 93) (.tmp 97) 22 2 (.int .i64 0) 8 rfl Try.underlying22 info2 rfl (by decide) (by omega) u131002 x131002_3 (wrap64 (t153-1)) [.int .i64 (wrap64 (t153-1))] (fun k_=>(w.heap.size≤k_)∧some k_≠(u131000:Value).ownBlock) (fun _=>False) rfl rfl ?aP (fun _ hk=>hk.elim) ?aF ?aO (Below.refl _ _) ?aS ?aL ?_;(case aP=>exact rfl);(case aF=>exact(fun k_ hk=>⟨(Nat.le_trans (ks2_ HK GW101 GW130) hk),Kd.fresh' (Kd.R_lt (ra_ HO_131000.o)) k_ hk⟩));(case aO=>exact(ra_ HO_131002.o));(case aS=>exact(ks2_ HK GW101 GW130));(case aL=>have:=LMc118.o;omega);intro v156 w129 ho hb hg hat;rw[←Ny155.o]at ho;have HO157:=q_ (ho);replace HO_131000:=q_ (Kd.R_after (ok:=(fun k_=>(w.heap.size≤k_))) (ra_ HO_131000.o) hg hat);replace BK101:=bg_ BK101 hg (Kd.R_ne HO_131002.o BK101.o (by decide));replace BK130:=bg_ BK130 hg (Kd.R_ne HO_131002.o BK130.o (by decide));replace HO152:=q_ (Kd.N_afterv (ok:=(fun k_=>(w.heap.size≤k_)∧some k_≠(u131000:Value).ownBlock∧k_≠gb101∧k_≠gb130∧k_≠g)) (mN_ HO152 (fun _ hk=>⟨⟨hk.1,⟨hk.2.1,⟨hk.2.2.2.1,⟨hk.2.2.2.2.1,hk.2.2.2.2.2⟩⟩⟩⟩,hk.2.2.1⟩)) hg hat);replace HB:=q_ (below_weaken (be3_ HB.o (IsS149.ge HI0.o) GE101.o GE130.o) HL.o hb);replace HI0:=q_ (IsS149.grown (si2_ HI0 NB0_101 NB0_130) hg (IsS149.own_ne HI0.o HO_131002.o (by decide)));replace HK:=q_ (KeepBut.trans (kp2_ HK GW101 GW130) (KeepBut.of_grown hg g) (Kd.R_base2 HO_131002.o));clear HO_131002 ho hb hg hat;obtain⟨Ao130,co130,eo130⟩:=Kd.R_slice HO157.o
         (subst eo130)
         refine hK.out _ _ ⟨(blk_cell BK130.o 0).trans rfl,(blk_cell BK130.o 1).trans rfl,(blk_cell BK130.o 2).trans rfl⟩ (fun hHeld=>?_);clear hK K;refine no_ (some 98) ?_;refine pv_ 7 99 255 HT_.o ?_;refine last_ (i:=8) (N:=none) (bb 9 511) rfl rfl (one_of HT_.o (by kernel_rfl)) (by decide) (fun K hK=>?_);have hs131:w129.cell? ⟨gb130,2,none⟩=some (u131002):=(blk_cell BK130.o 2).trans rfl;have hfs131:=blk_frozen BK130.o 2;have hns131_0:=NB101_130.o;have hms131_0:=NB130_101.o;refine skip_ (w1:=?_) (by rfl) rfl ?_ ?_;rotate_left
         ·go_simp
          rfl
         refine hK.out _ _ ?_;clear hK K;refine done_ (done_of HT_.o (by kernel_rfl)) ?_
         try go_wp2
         go_roundg k4
         case measure=>have:=HJ2.o;have:=HK2.o;have:=HK3.o;have:=HK4.o;omega
         case rel=>exact⟨(wrap64 (x12_3+1)),(t154),(y150),(y155),(.slice Ao124 y150.length co124),(.slice Ao130 y155.length co130),rs_,H',⟨by have:=HJ2.o;have:=HK2.o;have:=HK3.o;have:=HK4.o;omega⟩,⟨Kd.R_mono (rfR_ (Kd.R_types HO_131000.o BK130.o (by decide))) (fun _ hk=>⟨hk.1.1,hk.1.2⟩)⟩,⟨Kd.N_mono (rfN_ (Kd.N_mono HO152.o (fun k_ hk=>(⟨hk,hk.1.2.2.2.1⟩:_∧k_≠gb130)))) (fun _ hk=>⟨hk.1.1.1,⟨hk.1.1.2.1,⟨hk.1.2,⟨hk.1.1.2.2.1,⟨hk.1.1.2.2.2.1,hk.1.1.2.2.2.2⟩⟩⟩⟩⟩)⟩,⟨Kd.R_mono (rfR_ (Kd.R_types HO157.o BK130.o (by decide))) (fun _ hk=>⟨hk.1.1,hk.1.2⟩)⟩,⟨by(with_reducible repeat(first|refine blk_drewN ?_ _|refine blk_drew ?_|refine blk_alloc ?_ _));refine blk_far ?_ NB101_130.o _;(with_reducible repeat(first|refine blk_drewN ?_ _|refine blk_drew ?_|refine blk_alloc ?_ _));exact BK101.o⟩,⟨by(with_reducible repeat(first|refine blk_drewN ?_ _|refine blk_drew ?_|refine blk_alloc ?_ _));refine blk_put (cs:=#[u131000, .slice Ao124 y150.length co124,u131002]) ?_ 2 _ rfl;(with_reducible repeat(first|refine blk_drewN ?_ _|refine blk_drew ?_|refine blk_alloc ?_ _));exact BK130.o⟩,⟨si2_ HI0 NB0_101 NB0_130⟩,⟨kp2_ HK GW101 GW130⟩,⟨be3_ HB.o (IsS149.ge HI0.o) GE101.o GE130.o⟩⟩
def spec_l7Blocks.l0:Nat→List Int→Int→Int→Option (Int)
 |0,_,_,_=>none
 |k+1,x0,x3,x4=>if x4<256 then(if 0≤x4 then(if x4<(x0.length:Int)then((spec_l1In.f (rd x0 x4) 0 x3).bind fun t102=>(if t102=true then(spec_l7Blocks.l0 k x0 (mx x3 (wrap64 ((rd x0 x4)+1))) (wrap64 (x4+1)))else(some (-1))))else(none))else(none))else(some x3)
def spec_l7Blocks.f(k:Nat)(l0:List Int):Option (Int):=if(l0.length:Int)=256 then(spec_l7Blocks.l0 k l0 0 0)else(some (-1))
theorem spec_l7Blocks.mono_l:∀k,(∀y0 y1 y2,LeO (spec_l7Blocks.l0 k y0 y1 y2) (spec_l7Blocks.l0 (k+1) y0 y1 y2))
 |0=>fun _ _ _ r h=>by simp[spec_l7Blocks.l0]at h
 | k+1=>by
  have ih0:=spec_l7Blocks.mono_l k
  ·intro y0 y1 y2
   unfold spec_l7Blocks.l0
   repeat' first
   | (with_reducible exact ih0 _ _ _)
   | (with_reducible exact LeO.refl _)
   | (with_reducible exact LeO.none _)
   | (with_reducible refine LeO.ite ?_ ?_)
   | (with_reducible refine LeO.bind ?_ (fun _=>?_))
   |exact ih0 _ _ _
theorem spec_l7Blocks.mono:∀a0 k,LeO (spec_l7Blocks.f k a0) (spec_l7Blocks.f (k+1) a0):=by
 intro a0 k;have ih0:=spec_l7Blocks.mono_l k;unfold spec_l7Blocks.f
 repeat' first
  | (with_reducible exact ih0 _ _ _)
  | (with_reducible exact LeO.refl _)
  | (with_reducible exact LeO.none _)
  | (with_reducible refine LeO.ite ?_ ?_)
  | (with_reducible refine LeO.bind ?_ (fun _=>?_))
  |exact ih0 _ _ _
theorem spec_l7Blocks.calls(k:Nat)(A0:Option Addr)(c0:Nat)(l0:List Int)(r:Int)(w:World)(hr0:Kd.C (Kd.int .i64) w A0 l0.length l0)(hc0:l0.length≤c0)(h:spec_l7Blocks.f k l0=some r):
  Calls Try.prog 102 #[.slice A0 l0.length c0] w fun e w'=>e= .returned (.int .i64 r)∧Below w.heap.size w w':=by
 have HR0:=q_ hr0;have HC0:=q_ hc0;clear hr0 hc0;have HB:=q_ (Below.refl w.heap.size w);have H:(if(l0.length:Int)=256 then(spec_l7Blocks.l0 k l0 0 0)else(some (-1)))=some r:=h;clear h;by_cases c2:(l0.length:Int)=256;rotate_left
 ·rw[if_neg c2]at H;have c2b0:((l0.length:Int)==256)=false:=beq_eq_false_iff_ne.mpr c2;have c2b1:((l0.length:Int) != 256)=true:=bne_iff_ne.mpr c2;obtain rfl:=Option.some.inj H;go_enter Try.func102,Try.ntmps102;go_wp2
  go_ret
  exact⟨rt_,be_ HB.o⟩
 rw[if_pos c2]at H;have c2b0:((l0.length:Int)==256)=true:=beq_iff_eq.mpr c2;have c2b1:((l0.length:Int) != 256)=false:=bne_eq_false_iff_eq.mpr c2;clear c2;have H':=q_ H;clear H;go_enter Try.func102,Try.ntmps102;go_wp2
 go_loopg [3,4] k (fun kq v3 v4 w'=>∃(x3_1:Int) (x4_1:Int),v3= .int .i64 x3_1∧v4= .int .i64 x4_1∧J0 (spec_l7Blocks.l0 kq l0 x3_1 x4_1=some r)∧J0 (kq≤k)∧J0 (Below w.heap.size w w'))
 case atStart=>exact⟨(0),(0),rs_,rs_,H',⟨Nat.le_refl _⟩,⟨be_ HB.o⟩⟩
 case round=>
  clear H';clear c2b0 c2b1;obtain⟨x3_1,x4_1,rfl,rfl,HA,HK1,HB⟩:=hrel;cases gk with
  |zero=>exact absurd HA.o (by simp[spec_l7Blocks.l0])
  | succ k1=>
   have H:=HA.o;clear HA;simp only[spec_l7Blocks.l0]at H;by_cases c3:x4_1<256;rotate_left
   ·rw[if_neg c3]at H;have c3b0:=df_ c3;clear c3;obtain rfl:=Option.some.inj H;go_wp2
    go_ret
    exact⟨rt_,be_ HB.o⟩
   rw[if_pos c3]at H;have c3b0:=dt_ c3;clear c3;obtain⟨c4,H⟩:=ip_ H;have c4b0:=dt_ c4;clear c4;obtain⟨c5,H⟩:=ip_ H;have c5b0:=dt_ c5;clear c5;obtain⟨t102,A6,H⟩:=ob_ H;by_cases c7:t102=true;rotate_left
   ·replace c7:=Bool.eq_false_iff.mpr c7;subst c7;rw[if_neg nft_]at H;obtain rfl:=Option.some.inj H;have p101:0≤(x4_1:Int):=ot_ as_;have q101:x4_1<(l0.length:Int):=ot_ as_;obtain⟨ad101,e101,hx101_0⟩:=Kd.at_int HR0.o x4_1 p101 q101;cases e101;replace hx101_0:=mv_ HB.o hx101_0;replace p101:=eq_true p101;replace q101:=eq_true q101
    go_wp2_with(((with_reducible refine gate_callee (f:=60) rfl ?_);refine gl_ (some 17) rfl rfl Try.func60 #[.int .i64 (rd l0 x4_1), .int .i64 0, .int .i64 x3_1] ?_;(with_reducible refine(spec_l1In.calls (rd l0 x4_1) 0 x3_1 false _ A6.o).mono ?_);rintro e w' ⟨rfl,⟨nd,rfl⟩⟩;refine⟨_,rfl,?_⟩))
    go_ret
    exact⟨rt_,be_ HB.o⟩
   subst c7;rw[if_pos rfl]at H;obtain⟨ji8,hji8⟩:∃j_:Int,(mx x3_1 (wrap64 ((rd l0 x4_1)+1)))=j_:=⟨_,rfl⟩;replace H:(spec_l7Blocks.l0 k1 l0 ji8 (wrap64 (x4_1+1)))=some r:=by(rw[hji8]at H;exact H)
   have hji8_:(if x3_1<(wrap64 ((rd l0 x4_1)+1))then(wrap64 ((rd l0 x4_1)+1))else x3_1)=ji8:=hji8;have H':=q_ H;clear H;have p101:0≤(x4_1:Int):=ot_ as_;have q101:x4_1<(l0.length:Int):=ot_ as_;obtain⟨ad101,e101,hx101_0⟩:=Kd.at_int HR0.o x4_1 p101 q101;cases e101;replace hx101_0:=mv_ HB.o hx101_0;replace p101:=eq_true p101;replace q101:=eq_true q101
   go_wp2_with(((with_reducible refine gate_callee (f:=60) rfl ?_);refine gl_ (some 17) rfl rfl Try.func60 #[.int .i64 (rd l0 x4_1), .int .i64 0, .int .i64 x3_1] ?_;(with_reducible refine(spec_l1In.calls (rd l0 x4_1) 0 x3_1 true _ A6.o).mono ?_);rintro e w' ⟨rfl,⟨nd,rfl⟩⟩;refine⟨_,rfl,?_⟩;have p103:0≤(x4_1:Int):=ot_ as_;have q103:x4_1<(l0.length:Int):=ot_ as_;obtain⟨ad103,e103,hx103_0⟩:=Kd.at_int HR0.o x4_1 p103 q103;obtain rfl:ad101=ad103:=(by injection e103);replace hx103_0:=mv_ HB.o hx103_0;replace p103:=eq_true p103;replace q103:=eq_true q103))
   go_roundg k1
   case measure=>have:=HK1.o;omega
   case rel=>exact⟨(ji8),(wrap64 (x4_1+1)),(by rfl),rs_,H',⟨by have:=HK1.o;omega⟩,⟨be_ HB.o⟩⟩
mutual
def spec_DfaOk.j0:Nat→Int→Int→Bool→List Int→List (List Int)→List Int→Option (Bool)
 |0,_,_,_,_,_,_=>none
 |k+1,x3,x4,x29,x102000,x102001,x102002=>if x29=true then(some false)else(spec_DfaOk.l0 k x3 x4 0 x102000 x102001 x102002)
def spec_DfaOk.l0:Nat→Int→Int→Int→List Int→List (List Int)→List Int→Option (Bool)
 |0,_,_,_,_,_,_=>none
 |k+1,x3,x4,x5,x102000,x102001,x102002=>if x5<x3 then(if 0≤x5 then(if x5<(x102002.length:Int)then((spec_l1In.f (rd x102002 x5) (-1) 39).bind fun t104=>(if t104=true then(if x5<(x102001.length:Int)then(spec_DfaOk.j2 k x3 x4 x5 (((rd_L1 x102001 x5).length:Int) != x4) x102000 x102001 x102002)else(none))else(spec_DfaOk.j2 k x3 x4 x5 true x102000 x102001 x102002)))else(none))else(none))else(some true)
def spec_DfaOk.j2:Nat→Int→Int→Int→Bool→List Int→List (List Int)→List Int→Option (Bool)
 |0,_,_,_,_,_,_,_=>none
 |k+1,x3,x4,x5,x51,x102000,x102001,x102002=>if x51=true then(some false)else(spec_DfaOk.l1 k x3 x4 x5 0 x102000 x102001 x102002)
def spec_DfaOk.l1:Nat→Int→Int→Int→Int→List Int→List (List Int)→List Int→Option (Bool)
 |0,_,_,_,_,_,_,_=>none
 |k+1,x3,x4,x5,x6,x102000,x102001,x102002=>if x6<x4 then(if 0≤x5 then(if x5<(x102001.length:Int)then(if 0≤x6 then(if x6<((rd_L1 x102001 x5).length:Int)then((spec_l1In.f (rd (rd_L1 x102001 x5) x6) 0 (wrap64 (x3-1))).bind fun t108=>(if t108=true then(spec_DfaOk.l1 k x3 x4 x5 (wrap64 (x6+1)) x102000 x102001 x102002)else(some false)))else(none))else(none))else(none))else(none))else(spec_DfaOk.l0 k x3 x4 (wrap64 (x5+1)) x102000 x102001 x102002)
end
def spec_DfaOk.f(k:Nat)(l0_0:List Int)(l0_1:List (List Int))(l0_2:List Int):Option (Bool):=(spec_l7Blocks.f k l0_0).bind fun t102=>(if(l0_1.length:Int)<1 then(spec_DfaOk.j0 k (l0_1.length:Int) t102 true l0_0 l0_1 l0_2)else(if(l0_1.length:Int)>1000 then(spec_DfaOk.j0 k (l0_1.length:Int) t102 true l0_0 l0_1 l0_2)else(if(l0_2.length:Int)=(l0_1.length:Int)then(spec_DfaOk.j0 k (l0_1.length:Int) t102 (decide (t102<0)) l0_0 l0_1 l0_2)else(spec_DfaOk.j0 k (l0_1.length:Int) t102 true l0_0 l0_1 l0_2))))
theorem spec_DfaOk.mono_l:∀k,(∀y0 y1 y2 y3 y4 y5,LeO (spec_DfaOk.j0 k y0 y1 y2 y3 y4 y5) (spec_DfaOk.j0 (k+1) y0 y1 y2 y3 y4 y5))∧(∀y0 y1 y2 y3 y4 y5,LeO (spec_DfaOk.l0 k y0 y1 y2 y3 y4 y5) (spec_DfaOk.l0 (k+1) y0 y1 y2 y3 y4 y5))∧(∀y0 y1 y2 y3 y4 y5 y6,LeO (spec_DfaOk.j2 k y0 y1 y2 y3 y4 y5 y6) (spec_DfaOk.j2 (k+1) y0 y1 y2 y3 y4 y5 y6))∧(∀y0 y1 y2 y3 y4 y5 y6,LeO (spec_DfaOk.l1 k y0 y1 y2 y3 y4 y5 y6) (spec_DfaOk.l1 (k+1) y0 y1 y2 y3 y4 y5 y6))
 |0=>⟨fun _ _ _ _ _ _ r h=>by simp[spec_DfaOk.j0]at h,fun _ _ _ _ _ _ r h=>by simp[spec_DfaOk.l0]at h,fun _ _ _ _ _ _ _ r h=>by simp[spec_DfaOk.j2]at h,fun _ _ _ _ _ _ _ r h=>by simp[spec_DfaOk.l1]at h⟩
 | k+1=>by
  obtain⟨ih0,ih1,ih2,ih3⟩:=spec_DfaOk.mono_l k;refine⟨?_,?_,?_,?_⟩
  ·intro y0 y1 y2 y3 y4 y5
   unfold spec_DfaOk.j0
   repeat' first
   | (with_reducible exact ih0 _ _ _ _ _ _)
   | (with_reducible exact ih1 _ _ _ _ _ _)
   | (with_reducible exact ih2 _ _ _ _ _ _ _)
   | (with_reducible exact ih3 _ _ _ _ _ _ _)
   | (with_reducible exact spec_l7Blocks.mono _ _)
   | (with_reducible exact LeO.refl _)
   | (with_reducible exact LeO.none _)
   | (with_reducible refine LeO.ite ?_ ?_)
   | (with_reducible refine LeO.bind ?_ (fun _=>?_))
   |exact ih0 _ _ _ _ _ _
   |exact ih1 _ _ _ _ _ _
   |exact ih2 _ _ _ _ _ _ _
   |exact ih3 _ _ _ _ _ _ _
   |refine LeO.bind ?_ (fun _=>?_)
  ·intro y0 y1 y2 y3 y4 y5
   unfold spec_DfaOk.l0
   repeat' first
   | (with_reducible exact ih0 _ _ _ _ _ _)
   | (with_reducible exact ih1 _ _ _ _ _ _)
   | (with_reducible exact ih2 _ _ _ _ _ _ _)
   | (with_reducible exact ih3 _ _ _ _ _ _ _)
   | (with_reducible exact spec_l7Blocks.mono _ _)
   | (with_reducible exact LeO.refl _)
   | (with_reducible exact LeO.none _)
   | (with_reducible refine LeO.ite ?_ ?_)
   | (with_reducible refine LeO.bind ?_ (fun _=>?_))
   |exact ih0 _ _ _ _ _ _
   |exact ih1 _ _ _ _ _ _
   |exact ih2 _ _ _ _ _ _ _
   |exact ih3 _ _ _ _ _ _ _
   |refine LeO.bind ?_ (fun _=>?_)
  ·intro y0 y1 y2 y3 y4 y5 y6
   unfold spec_DfaOk.j2
   repeat' first
   | (with_reducible exact ih0 _ _ _ _ _ _)
   | (with_reducible exact ih1 _ _ _ _ _ _)
   | (with_reducible exact ih2 _ _ _ _ _ _ _)
   | (with_reducible exact ih3 _ _ _ _ _ _ _)
   | (with_reducible exact spec_l7Blocks.mono _ _)
   | (with_reducible exact LeO.refl _)
   | (with_reducible exact LeO.none _)
   | (with_reducible refine LeO.ite ?_ ?_)
   | (with_reducible refine LeO.bind ?_ (fun _=>?_))
   |exact ih0 _ _ _ _ _ _
   |exact ih1 _ _ _ _ _ _
   |exact ih2 _ _ _ _ _ _ _
   |exact ih3 _ _ _ _ _ _ _
   |refine LeO.bind ?_ (fun _=>?_)
  ·intro y0 y1 y2 y3 y4 y5 y6
   unfold spec_DfaOk.l1
   repeat' first
   | (with_reducible exact ih0 _ _ _ _ _ _)
   | (with_reducible exact ih1 _ _ _ _ _ _)
   | (with_reducible exact ih2 _ _ _ _ _ _ _)
   | (with_reducible exact ih3 _ _ _ _ _ _ _)
   | (with_reducible exact spec_l7Blocks.mono _ _)
   | (with_reducible exact LeO.refl _)
   | (with_reducible exact LeO.none _)
   | (with_reducible refine LeO.ite ?_ ?_)
   | (with_reducible refine LeO.bind ?_ (fun _=>?_))
   |exact ih0 _ _ _ _ _ _
   |exact ih1 _ _ _ _ _ _
   |exact ih2 _ _ _ _ _ _ _
   |exact ih3 _ _ _ _ _ _ _
theorem spec_DfaOk.mono:∀a0 a1 a2 k,LeO (spec_DfaOk.f k a0 a1 a2) (spec_DfaOk.f (k+1) a0 a1 a2):=by
 intro a0 a1 a2 k;obtain⟨ih0,ih1,ih2,ih3⟩:=spec_DfaOk.mono_l k;unfold spec_DfaOk.f
 repeat' first
  | (with_reducible exact ih0 _ _ _ _ _ _)
  | (with_reducible exact ih1 _ _ _ _ _ _)
  | (with_reducible exact ih2 _ _ _ _ _ _ _)
  | (with_reducible exact ih3 _ _ _ _ _ _ _)
  | (with_reducible exact spec_l7Blocks.mono _ _)
  | (with_reducible exact LeO.refl _)
  | (with_reducible exact LeO.none _)
  | (with_reducible refine LeO.ite ?_ ?_)
  | (with_reducible refine LeO.bind ?_ (fun _=>?_))
  |exact ih0 _ _ _ _ _ _
  |exact ih1 _ _ _ _ _ _
  |exact ih2 _ _ _ _ _ _ _
  |exact ih3 _ _ _ _ _ _ _
theorem spec_DfaOk.calls(k:Nat)(A0_0:Option Addr)(c0_0:Nat)(l0_0:List Int)(A0_1:Option Addr)(c0_1:Nat)(l0_1:List (List Int))(A0_2:Option Addr)(c0_2:Nat)(l0_2:List Int)(r:Bool)(w:World)(hr0_0:Kd.C (Kd.int .i64) w A0_0 l0_0.length l0_0)(hc0_0:l0_0.length≤c0_0)(hr0_1:Kd.C (Kd.slice 2 (Kd.int .i64)) w A0_1 l0_1.length l0_1)(hc0_1:l0_1.length≤c0_1)(hr0_2:Kd.C (Kd.int .i64) w A0_2 l0_2.length l0_2)(hc0_2:l0_2.length≤c0_2)(h:spec_DfaOk.f k l0_0 l0_1 l0_2=some r):
  Calls Try.prog 40 #[.agg #[.slice A0_0 l0_0.length c0_0, .slice A0_1 l0_1.length c0_1, .slice A0_2 l0_2.length c0_2]] w fun e w'=>e= .returned (.bool r)∧Below w.heap.size w w':=by
 have hu32:=Try.underlying32;have HR0_0:=q_ hr0_0;have HC0_0:=q_ hc0_0;clear hr0_0 hc0_0;have HR0_1:=q_ hr0_1;have HC0_1:=q_ hc0_1;clear hr0_1 hc0_1;have HR0_2:=q_ hr0_2;have HC0_2:=q_ hc0_2;clear hr0_2 hc0_2;have HB:=q_ (Below.refl w.heap.size w);have H:((spec_l7Blocks.f k l0_0).bind fun t102=>(if(l0_1.length:Int)<1 then(spec_DfaOk.j0 k (l0_1.length:Int) t102 true l0_0 l0_1 l0_2)else(if(l0_1.length:Int)>1000 then(spec_DfaOk.j0 k (l0_1.length:Int) t102 true l0_0 l0_1 l0_2)else(if(l0_2.length:Int)=(l0_1.length:Int)then(spec_DfaOk.j0 k (l0_1.length:Int) t102 (decide (t102<0)) l0_0 l0_1 l0_2)else(spec_DfaOk.j0 k (l0_1.length:Int) t102 true l0_0 l0_1 l0_2)))))=some r:=h;clear h;obtain⟨t102,A2,H⟩:=ob_ H;have HC3:=q_ H;clear H;go_enter Try.func40,Try.ntmps40;go_upto_region 3 with(first| ((with_reducible refine gate_dst (N:=1) rfl ?_);(try(refine gate_guard (by rfl) ?_;dsimp only));refine bx_ 1 #[.slice A0_0 l0_0.length c0_0, .slice A0_1 l0_1.length c0_1, .slice A0_2 l0_2.length c0_2] 32 ?_;intro gb101 hg w4 hbox hb;have BK101:=q_ (hbox);have GE101:=ge_ hg HB;replace HB:=sb_ HB hb;clear hb hbox hg;obtain⟨hcz5_0,hcz5_1,hcz5_2,hfz5_0,hfz5_1,hfz5_2⟩:=d3_ BK101)| ((with_reducible refine gate_callee (f:=102) rfl ?_);refine gl_ (some 12) rfl rfl Try.func102 #[.slice A0_0 l0_0.length c0_0] ?_;(with_reducible refine(spec_l7Blocks.calls k _ _ l0_0 t102 _ ?side1 ?side2 A2.o).mono ?_);(case side1=>exact Kd.C_below HR0_0.o (be_ HB.o));(case side2=>exact HC0_0.o);rintro e w6 ⟨rfl,hb⟩;refine⟨_,rfl,?_⟩;replace BK101:=lb_ BK101 hb;replace HB:=sb1_ HB GE101 hb;clear hb))
 go_cut [29] (fun v29 wc=>∃(kq:Nat) (x29_2:Bool),v29= .bool x29_2∧J0 (spec_DfaOk.j0 kq (l0_1.length:Int) t102 x29_2 l0_0 l0_1 l0_2=some r)∧J0 (kq≤k)∧J0 (wc.heap[gb101]? =some (.cells #[(.slice A0_0 l0_0.length c0_0),(.slice A0_1 l0_1.length c0_1),(.slice A0_2 l0_2.length c0_2)] 32 (0,0)))∧J0 (Below w.heap.size w wc))
 case first=>
  have H:=HC3.o;clear HC3;by_cases c7:(l0_1.length:Int)<1
  ·rw[if_pos c7]at H;have c7b0:=dt_ c7;have c7b1:decide (l0_1.length<1)=true:=decide_eq_true (by omega);clear c7
   (skip)
   have H':=q_ H;clear H;go_wp2;go_meet
   case rel=>exact⟨_,(true),rs_,H',⟨by omega⟩,⟨bk_ BK101.o⟩,⟨be1_ HB.o GE101.o⟩⟩
  rw[if_neg c7]at H;have c7b0:=df_ c7;have c7b1:decide (l0_1.length<1)=false:=decide_eq_false (by omega);clear c7
  (skip)
  by_cases c8:(l0_1.length:Int)>1000
  ·rw[if_pos c8]at H;have c8b0:decide (1000<(l0_1.length:Int))=true:=dt_ c8;have c8b1:decide (1000<l0_1.length)=true:=decide_eq_true (by omega);clear c8;have H':=q_ H;clear H;go_wp2
   go_meet
   case rel=>exact⟨_,(true),rs_,H',⟨by omega⟩,⟨bk_ BK101.o⟩,⟨be1_ HB.o GE101.o⟩⟩
  rw[if_neg c8]at H;have c8b0:decide (1000<(l0_1.length:Int))=false:=df_ c8;have c8b1:decide (1000<l0_1.length)=false:=decide_eq_false (by omega);clear c8;by_cases c9:(l0_2.length:Int)=(l0_1.length:Int);rotate_left
  ·rw[if_neg c9]at H;have c9b0:((l0_2.length:Int)== (l0_1.length:Int))=false:=beq_eq_false_iff_ne.mpr c9;have c9b1:((l0_2.length:Int) != (l0_1.length:Int))=true:=bne_iff_ne.mpr c9
   have c9b2:(l0_2.length==l0_1.length)=false:=by(simp at c9 ⊢;omega)
   have H':=q_ H;clear H;obtain⟨hcz11_0,hcz11_1,hcz11_2,hfz11_0,hfz11_1,hfz11_2⟩:=d3_ BK101;go_wp2;go_meet
   case rel=>exact⟨_,(true),rs_,H',⟨by omega⟩,⟨bk_ BK101.o⟩,⟨be1_ HB.o GE101.o⟩⟩
  rw[if_pos c9]at H;have c9b0:((l0_2.length:Int)== (l0_1.length:Int))=true:=beq_iff_eq.mpr c9;have c9b1:((l0_2.length:Int) != (l0_1.length:Int))=false:=bne_eq_false_iff_eq.mpr c9;have c9b2:(l0_2.length==l0_1.length)=true:=by(simp at c9 ⊢;omega)
  clear c9;have H':=q_ H;clear H;obtain⟨hcz10_0,hcz10_1,hcz10_2,hfz10_0,hfz10_1,hfz10_2⟩:=d3_ BK101;go_wp2;go_meet
  case rel=>exact⟨_,(decide (t102<0)),rs_,H',⟨by omega⟩,⟨bk_ BK101.o⟩,⟨be1_ HB.o GE101.o⟩⟩
 case rest=>
  clear HC3 hcz5_0 hcz5_1 hcz5_2 hfz5_0 hfz5_1 hfz5_2;obtain⟨kq,x29_2,rfl,HA,HJ2,BK101,HB⟩:=hcut;cases kq with
  |zero=>exact absurd HA.o (by simp[spec_DfaOk.j0])
  | succ kj2=>
   have H:=HA.o;clear HA;simp only[spec_DfaOk.j0]at H;by_cases c12:x29_2=true
   ·subst c12;rw[if_pos rfl]at H;obtain rfl:=Option.some.inj H;go_wp2
    go_ret
    exact⟨rt_,be1_ HB.o GE101.o⟩
   replace c12:=Bool.eq_false_iff.mpr c12;subst c12;rw[if_neg nft_]at H;have H':=q_ H;clear H;go_wp2
   go_loopg [5] kj2 (fun kq v5 w'=>∃(x5_2:Int),v5= .int .i64 x5_2∧J0 (spec_DfaOk.l0 kq (l0_1.length:Int) t102 x5_2 l0_0 l0_1 l0_2=some r)∧J0 (kq≤kj2)∧J0 (w'.heap[gb101]? =some (.cells #[(.slice A0_0 l0_0.length c0_0),(.slice A0_1 l0_1.length c0_1),(.slice A0_2 l0_2.length c0_2)] 32 (0,0)))∧J0 (Below w.heap.size w w'))
   case atStart=>exact⟨(0),rs_,H',⟨Nat.le_refl _⟩,⟨bk_ BK101.o⟩,⟨be1_ HB.o GE101.o⟩⟩
   case round=>
    clear H';obtain⟨x5_2,rfl,HA,HK2,BK101,HB⟩:=hrel;cases gk with
    |zero=>exact absurd HA.o (by simp[spec_DfaOk.l0])
    | succ k2=>
     have H:=HA.o;clear HA;simp only[spec_DfaOk.l0]at H;by_cases c13:x5_2<(l0_1.length:Int);rotate_left
     ·rw[if_neg c13]at H;have c13b0:=df_ c13;clear c13;obtain rfl:=Option.some.inj H;go_wp2
      go_ret
      exact⟨rt_,be1_ HB.o GE101.o⟩
     rw[if_pos c13]at H;have c13b0:=dt_ c13;clear c13;have HC14:=q_ H;clear H;go_upto_region 8 with(fail)
     go_cut [51] (fun v51 wc=>∃(kq:Nat) (x51_13:Bool),v51= .bool x51_13∧J0 (spec_DfaOk.j2 kq (l0_1.length:Int) t102 x5_2 x51_13 l0_0 l0_1 l0_2=some r)∧J0 (kq≤k2)∧J0 (wc.heap[gb101]? =some (.cells #[(.slice A0_0 l0_0.length c0_0),(.slice A0_1 l0_1.length c0_1),(.slice A0_2 l0_2.length c0_2)] 32 (0,0)))∧J0 (Below w.heap.size w wc))
     case first=>
      have H:=HC14.o;clear HC14;obtain⟨c15,H⟩:=ip_ H;have c15b0:=dt_ c15;clear c15
      (skip)
      obtain⟨c16,H⟩:=ip_ H;have c16b0:=dt_ c16;clear c16;obtain⟨t104,A17,H⟩:=ob_ H;obtain⟨hcz20_0,hcz20_1,hcz20_2,hfz20_0,hfz20_1,hfz20_2⟩:=d3_ BK101;have p103:0≤(x5_2:Int):=ot_ as_;have q103:x5_2<(l0_2.length:Int):=ot_ as_;obtain⟨ad103,e103,hx103_0⟩:=Kd.at_int HR0_2.o x5_2 p103 q103;cases e103;replace hx103_0:=mv_ HB.o hx103_0;replace p103:=eq_true p103;replace q103:=eq_true q103;by_cases c18:t104=true;rotate_left
      ·replace c18:=Bool.eq_false_iff.mpr c18;subst c18;rw[if_neg nft_]at H;have H':=q_ H;clear H
       go_wp2_with(((with_reducible refine gate_callee (f:=60) rfl ?_);refine gl_ (some 40) rfl rfl Try.func60 #[.int .i64 (rd l0_2 x5_2), .int .i64 (-1), .int .i64 39] ?_;(with_reducible refine(spec_l1In.calls (rd l0_2 x5_2) (-1) 39 false _ A17.o).mono ?_);rintro e w' ⟨rfl,⟨nd,rfl⟩⟩;refine⟨_,rfl,?_⟩))
       go_meet
       case rel=>exact⟨_,(true),rs_,H',⟨by have:=HJ2.o;have:=HK2.o;first|omega|exact Nat.le_refl _⟩,⟨bk_ BK101.o⟩,⟨be1_ HB.o GE101.o⟩⟩
      subst c18;rw[if_pos rfl]at H;obtain⟨c19,H⟩:=ip_ H;have c19b0:=dt_ c19;clear c19;have H':=q_ H;clear H
      go_wp2_with(((with_reducible refine gate_callee (f:=60) rfl ?_);refine gl_ (some 40) rfl rfl Try.func60 #[.int .i64 (rd l0_2 x5_2), .int .i64 (-1), .int .i64 39] ?_;(with_reducible refine(spec_l1In.calls (rd l0_2 x5_2) (-1) 39 true _ A17.o).mono ?_);rintro e w' ⟨rfl,⟨nd,rfl⟩⟩;refine⟨_,rfl,?_⟩;have p105:0≤(x5_2:Int):=ot_ as_;have q105:x5_2<(l0_1.length:Int):=ot_ as_;obtain⟨ad105,A105_0,c105_0,e105,hx105_0,hl105_0,hi105_0⟩:=at_L1 HR0_1.o x5_2 p105 q105;cases e105;replace hx105_0:=mv_ HB.o hx105_0;have HR105_0:=q_ hi105_0;have HC105_0:=q_ hl105_0;clear hi105_0 hl105_0;replace p105:=eq_true p105;replace q105:=eq_true q105))
      go_meet
      case rel=>exact⟨_,((((rd_L1 l0_1 x5_2).length:Int) != t102)),rs_,H',⟨by have:=HJ2.o;have:=HK2.o;first|omega|exact Nat.le_refl _⟩,⟨bk_ BK101.o⟩,⟨be1_ HB.o GE101.o⟩⟩
     case rest=>
      clear HC14 c13b0;obtain⟨kq,x51_13,rfl,HA,HJ13,BK101,HB⟩:=hcut;cases kq with
      |zero=>exact absurd HA.o (by simp[spec_DfaOk.j2])
      | succ kj13=>
       have H:=HA.o;clear HA;simp only[spec_DfaOk.j2]at H;by_cases c22:x51_13=true
       ·subst c22;rw[if_pos rfl]at H;obtain rfl:=Option.some.inj H;go_wp2
        go_ret
        exact⟨rt_,be1_ HB.o GE101.o⟩
       replace c22:=Bool.eq_false_iff.mpr c22;subst c22;rw[if_neg nft_]at H;have H':=q_ H;clear H;go_wp2
       go_loopg [6] kj13 (fun kq v6 w'=>∃(x6_4:Int),v6= .int .i64 x6_4∧J0 (spec_DfaOk.l1 kq (l0_1.length:Int) t102 x5_2 x6_4 l0_0 l0_1 l0_2=some r)∧J0 (kq≤kj13)∧J0 (w'.heap[gb101]? =some (.cells #[(.slice A0_0 l0_0.length c0_0),(.slice A0_1 l0_1.length c0_1),(.slice A0_2 l0_2.length c0_2)] 32 (0,0)))∧J0 (Below w.heap.size w w'))
       case atStart=>exact⟨(0),rs_,H',⟨Nat.le_refl _⟩,⟨bk_ BK101.o⟩,⟨be1_ HB.o GE101.o⟩⟩
       case round=>
        clear H';obtain⟨x6_4,rfl,HA,HK4,BK101,HB⟩:=hrel;cases gk with
        |zero=>exact absurd HA.o (by simp[spec_DfaOk.l1])
        | succ k4=>
         have H:=HA.o;clear HA;simp only[spec_DfaOk.l1]at H;by_cases c23:x6_4<t102;rotate_left
         ·rw[if_neg c23]at H;have c23b0:=df_ c23;clear c23;have H':=q_ H;clear H;go_wp2
          go_roundg k4
          case measure=>have:=HJ2.o;have:=HK2.o;have:=HJ13.o;have:=HK4.o;omega
          case rel=>exact⟨(wrap64 (x5_2+1)),rs_,H',⟨by have:=HJ2.o;have:=HK2.o;have:=HJ13.o;have:=HK4.o;omega⟩,⟨bk_ BK101.o⟩,⟨be1_ HB.o GE101.o⟩⟩
         rw[if_pos c23]at H;have c23b0:=dt_ c23;clear c23;obtain⟨c24,H⟩:=ip_ H;have c24b0:=dt_ c24;clear c24;obtain⟨c25,H⟩:=ip_ H;have c25b0:=dt_ c25;clear c25;obtain⟨c26,H⟩:=ip_ H;have c26b0:=dt_ c26;clear c26;obtain⟨c27,H⟩:=ip_ H;have c27b0:=dt_ c27;clear c27;obtain⟨t108,A28,H⟩:=ob_ H;obtain⟨hcz30_0,hcz30_1,hcz30_2,hfz30_0,hfz30_1,hfz30_2⟩:=d3_ BK101;have p106:0≤(x5_2:Int):=ot_ as_;have q106:x5_2<(l0_1.length:Int):=ot_ as_;obtain⟨ad106,A106_0,c106_0,e106,hx106_0,hl106_0,hi106_0⟩:=at_L1 HR0_1.o x5_2 p106 q106;cases e106;replace hx106_0:=mv_ HB.o hx106_0;have HR106_0:=q_ hi106_0;have HC106_0:=q_ hl106_0;replace p106:=eq_true p106;replace q106:=eq_true q106;have p107:0≤(x6_4:Int):=ot_ as_;have q107:x6_4<((rd_L1 l0_1 x5_2).length:Int):=ot_ as_;obtain⟨ad107,e107,hx107_0⟩:=Kd.at_int HR106_0.o x6_4 p107 q107;cases e107;replace hx107_0:=mv_ HB.o hx107_0;replace p107:=eq_true p107;replace q107:=eq_true q107;by_cases c29:t108=true;rotate_left
         ·replace c29:=Bool.eq_false_iff.mpr c29;subst c29;rw[if_neg nft_]at H;obtain rfl:=Option.some.inj H;clear hi106_0 hl106_0
          go_wp2_with(((with_reducible refine gate_callee (f:=60) rfl ?_);refine gl_ (some 67) rfl rfl Try.func60 #[.int .i64 (rd (rd_L1 l0_1 x5_2) x6_4), .int .i64 0, .int .i64 (wrap64 ((l0_1.length:Int)-1))] ?_;(with_reducible refine(spec_l1In.calls (rd (rd_L1 l0_1 x5_2) x6_4) 0 (wrap64 ((l0_1.length:Int)-1)) false _ A28.o).mono ?_);rintro e w' ⟨rfl,⟨nd,rfl⟩⟩;refine⟨_,rfl,?_⟩))
          go_ret
          exact⟨rt_,be1_ HB.o GE101.o⟩
         subst c29;rw[if_pos rfl]at H;have H':=q_ H;clear H;clear hi106_0 hl106_0
         go_wp2_with(((with_reducible refine gate_callee (f:=60) rfl ?_);refine gl_ (some 67) rfl rfl Try.func60 #[.int .i64 (rd (rd_L1 l0_1 x5_2) x6_4), .int .i64 0, .int .i64 (wrap64 ((l0_1.length:Int)-1))] ?_;(with_reducible refine(spec_l1In.calls (rd (rd_L1 l0_1 x5_2) x6_4) 0 (wrap64 ((l0_1.length:Int)-1)) true _ A28.o).mono ?_);rintro e w' ⟨rfl,⟨nd,rfl⟩⟩;refine⟨_,rfl,?_⟩))
         go_roundg k4
         case measure=>have:=HJ2.o;have:=HK2.o;have:=HJ13.o;have:=HK4.o;omega
         case rel=>exact⟨(wrap64 (x6_4+1)),rs_,H',⟨by have:=HJ2.o;have:=HK2.o;have:=HJ13.o;have:=HK4.o;omega⟩,⟨bk_ BK101.o⟩,⟨be1_ HB.o GE101.o⟩⟩
mutual
def spec_l10Default.l0:Nat→List Int→Int→List Int→Int→Option (Int)
 |0,_,_,_,_=>none
 |k+1,x0,x1,x5,x6=>if x6<(x0.length:Int)then(if 0≤x6 then(if 0≤(rd x0 x6)then(if(rd x0 x6)<(x5.length:Int)then(spec_l10Default.l0 k x0 x1 (x5.set ((rd x0 x6):Int).toNat (wrap64 ((rd x5 (rd x0 x6))+1))) (wrap64 (x6+1)))else(none))else(none))else(none))else(spec_l10Default.l1 k x1 x5 0 0)
def spec_l10Default.l1:Nat→Int→List Int→Int→Int→Option (Int)
 |0,_,_,_,_=>none
 |k+1,x1,x5,x7,x8=>if x8<x1 then(if 0≤x8 then(if x8<(x5.length:Int)then(if 0≤x7 then(if x7<(x5.length:Int)then(if(rd x5 x8)>(rd x5 x7)then(spec_l10Default.l1 k x1 x5 x8 (wrap64 (x8+1)))else(spec_l10Default.l1 k x1 x5 x7 (wrap64 (x8+1))))else(none))else(none))else(none))else(none))else(some x7)
end
def spec_l10Default.f(k:Nat)(l0:List Int)(a1:Int):Option (Int):=if 0≤a1 then(if(a1:Int).toNat≤35184372088832 then(spec_l10Default.l0 k l0 a1 (List.replicate (a1:Int).toNat 0) 0)else(none))else(none)
theorem spec_l10Default.mono_l:∀k,(∀y0 y1 y2 y3,LeO (spec_l10Default.l0 k y0 y1 y2 y3) (spec_l10Default.l0 (k+1) y0 y1 y2 y3))∧(∀y0 y1 y2 y3,LeO (spec_l10Default.l1 k y0 y1 y2 y3) (spec_l10Default.l1 (k+1) y0 y1 y2 y3))
 |0=>⟨fun _ _ _ _ r h=>by simp[spec_l10Default.l0]at h,fun _ _ _ _ r h=>by simp[spec_l10Default.l1]at h⟩
 | k+1=>by
  obtain⟨ih0,ih1⟩:=spec_l10Default.mono_l k;refine⟨?_,?_⟩
  ·intro y0 y1 y2 y3
   unfold spec_l10Default.l0
   repeat' first
   | (with_reducible exact ih0 _ _ _ _)
   | (with_reducible exact ih1 _ _ _ _)
   | (with_reducible exact LeO.refl _)
   | (with_reducible exact LeO.none _)
   | (with_reducible refine LeO.ite ?_ ?_)
   | (with_reducible refine LeO.bind ?_ (fun _=>?_))
   |exact ih0 _ _ _ _
   |exact ih1 _ _ _ _
   |refine LeO.bind ?_ (fun _=>?_)
  ·intro y0 y1 y2 y3
   unfold spec_l10Default.l1
   repeat' first
   | (with_reducible exact ih0 _ _ _ _)
   | (with_reducible exact ih1 _ _ _ _)
   | (with_reducible exact LeO.refl _)
   | (with_reducible exact LeO.none _)
   | (with_reducible refine LeO.ite ?_ ?_)
   | (with_reducible refine LeO.bind ?_ (fun _=>?_))
   |exact ih0 _ _ _ _
   |exact ih1 _ _ _ _
theorem spec_l10Default.mono:∀a0 a1 k,LeO (spec_l10Default.f k a0 a1) (spec_l10Default.f (k+1) a0 a1):=by
 intro a0 a1 k;obtain⟨ih0,ih1⟩:=spec_l10Default.mono_l k;unfold spec_l10Default.f
 repeat' first
  | (with_reducible exact ih0 _ _ _ _)
  | (with_reducible exact ih1 _ _ _ _)
  | (with_reducible exact LeO.refl _)
  | (with_reducible exact LeO.none _)
  | (with_reducible refine LeO.ite ?_ ?_)
  | (with_reducible refine LeO.bind ?_ (fun _=>?_))
  |exact ih0 _ _ _ _
  |exact ih1 _ _ _ _
theorem spec_l10Default.calls(k:Nat)(A0:Option Addr)(c0:Nat)(l0:List Int)(a1:Int)(r:Int)(w:World)(hr0:Kd.C (Kd.int .i64) w A0 l0.length l0)(hc0:l0.length≤c0)(h:spec_l10Default.f k l0 a1=some r):
  Calls Try.prog 41 #[.slice A0 l0.length c0, .int .i64 a1] w fun e w'=>e= .returned (.int .i64 r)∧Below w.heap.size w w':=by
 have HR0:=q_ hr0;have HC0:=q_ hc0;clear hr0 hc0;have HB:=q_ (Below.refl w.heap.size w);have H:(if 0≤a1 then(if(a1:Int).toNat≤35184372088832 then(spec_l10Default.l0 k l0 a1 (List.replicate (a1:Int).toNat 0) 0)else(none))else(none))=some r:=h;clear h;obtain⟨c3,H⟩:=ip_ H;have c3b0:=eq_true c3;have c3b1:=dt_ c3;clear c3;obtain⟨c4,H⟩:=ip_ H;have c4b0:=eq_true c4;have c4b1:=dt_ c4;clear c4;generalize hy101:(List.replicate (a1:Int).toNat 0:List Int)=y101 at H;have Ny101:=q_ hy101.symm;clear hy101;have H':=q_ H;clear H;go_enter Try.func41,Try.ntmps41
 go_wp2_with(((with_reducible refine gate_dst (N:=10) rfl ?_);refine Kd.R_make (Kd.int .i64) _ 2 rfl (N:=10) rfl 22 _ _ rfl a1 rfl rfl Try.underlying22 (.int .i64 0) 8 info2 rfl (by decide) (by omega) 0 (ok:=fun _=>True) (okp:=fun _=>True) rfl (fun _ hk=>hk) trivial (ot_ as_) (Nat.le_trans (Nat.mul_le_mul_right _ (ot_ as_:a1.toNat≤35184372088832)) (by omega)) (Below.refl _ _) (Nat.le_refl _) ?_;intro v102 w5 ho6 hb hg_ hnew_;clear hg_ hnew_;(rw[←Ny101.o]at ho6);have HO103:=q_ (Kd.R_lower ho6 (below_size (be_ HB.o)));replace HB:=sb_ HB hb;clear hb ho6))
 go_loopg [6] k (fun kq v6 w'=>∃(x5_1:List Int) (x6_1:Int),v6= .int .i64 x6_1∧J0 (spec_l10Default.l0 kq l0 a1 x5_1 x6_1=some r)∧J0 (kq≤k)∧J0 (Kd.R (Kd.int .i64) 2 w' w.heap.size (fun _=>True) v102 x5_1)∧J0 (Below w.heap.size w w'))
 case atStart=>exact⟨(y101),(0),rs_,H',⟨Nat.le_refl _⟩,⟨ra_ HO103.o⟩,⟨be_ HB.o⟩⟩
 case round=>
  clear H';clear c3b0 c3b1 c4b0 c4b1;obtain⟨x5_1,x6_1,rfl,HA,HK1,HO_5,HB⟩:=hrel;cases gk with
  |zero=>exact absurd HA.o (by simp[spec_l10Default.l0])
  | succ k1=>
   have H:=HA.o;clear HA;simp only[spec_l10Default.l0]at H;by_cases c7:x6_1<(l0.length:Int)
   ·rw[if_pos c7]at H;have c7b0:=dt_ c7;clear c7;obtain⟨c8,H⟩:=ip_ H;have c8b0:=dt_ c8;clear c8;obtain⟨c9,H⟩:=ip_ H;have c9b0:=dt_ c9;clear c9;obtain⟨c10,H⟩:=ip_ H;have c10b0:=dt_ c10;clear c10;generalize hy106:(x5_1.set ((rd l0 x6_1):Int).toNat (wrap64 ((rd x5_1 (rd l0 x6_1))+1)):List Int)=y106 at H;have Ny106:=q_ hy106.symm;clear hy106;have H':=q_ H;clear H;have p104:0≤(x6_1:Int):=ot_ as_;have q104:x6_1<(l0.length:Int):=ot_ as_;obtain⟨ad104,e104,hx104_0⟩:=Kd.at_int HR0.o x6_1 p104 q104;cases e104;replace hx104_0:=mv_ HB.o hx104_0;replace p104:=eq_true p104;replace q104:=eq_true q104;obtain⟨Ao12,co12,eo12⟩:=Kd.R_slice HO_5.o;subst eo12;have p105:0≤((rd l0 x6_1):Int):=ot_ as_;have q105:(rd l0 x6_1)<(x5_1.length:Int):=ot_ as_;obtain⟨ad105,e105,hx105_0⟩:=Kd.at_int (Kd.R_reads' HO_5.o).2.2 (rd l0 x6_1) p105 q105;cases e105;replace p105:=eq_true p105;replace q105:=eq_true q105;have p11:0≤((rd l0 x6_1):Int):=ot_ as_;have q11:((rd l0 x6_1):Int)<((x5_1.length:Int):Int):=ot_ as_;obtain⟨go11,co11,eo11,gb11,gl11,cl11,HG11⟩:=Kd.R_form HO_5.o (by omega)
    (cases eo11);have GB11:=q_ gb11;have GG11:=q_ HG11;clear gb11 gl11 HG11
    (simp only[add_plain]at hx105_0)
    obtain⟨hx11_0,hf11_0⟩:=Kd.R_celln 0 HO_5.o ((rd l0 x6_1):Int) p11 q11;replace p11:=eq_true p11;replace q11:=eq_true q11;have HP13:=Kd.R_putg HO_5.o ((rd l0 x6_1):Int) (wrap64 ((rd x5_1 (rd l0 x6_1))+1))
    go_wp2_with(((with_reducible refine gate_store (t:=2) (p:=25) rfl ?_);refine store_event (t:=2) (p:=25) (v:=?vo_w14) (w1:=(wr.setCell ⟨go11,((rd l0 x6_1):Int).toNat,none⟩ (.int .i64 (wrap64 ((rd x5_1 (rd l0 x6_1))+1))))) ?hg ?ho ?hn ?hr ?_;(case ho=>rfl);(case hg=>rfl);(case hn=>rfl);(case hr=>first| (go_simp;done)| (go_simp;rfl));intro w14 hw;have hg:wr.grownBy w14 (some go11):=(by rw[hw];exact HP13.2);have hp_:Kd.R (Kd.int .i64) 2 w14 w.heap.size (fun _=>True) (.slice (some ⟨go11,0,none⟩) x5_1.length co12) y106:=(by rw[hw,Ny106.o];exact HP13.1);clear HP13;replace HO_5:=q_ (hp_);replace HB:=q_ ((by rw[hw];exact below_set (HB.o) GB11.out:Below w.heap.size w w14));clear hg hw hp_))
    go_roundg k1
    case measure=>have:=HK1.o;omega
    case rel=>exact⟨(y106),(wrap64 (x6_1+1)),rs_,H',⟨by have:=HK1.o;omega⟩,⟨ra_ HO_5.o⟩,⟨be_ HB.o⟩⟩
   rw[if_neg c7]at H;have c7b0:=df_ c7;clear c7;have H':=q_ H;clear H;go_wp2
   go_loopg [7,8] k1 (fun kq v7 v8 w'=>∃(x7_2:Int) (x8_2:Int),v7= .int .i64 x7_2∧v8= .int .i64 x8_2∧J0 (spec_l10Default.l1 kq a1 x5_1 x7_2 x8_2=some r)∧J0 (kq≤k1)∧J0 (Kd.R (Kd.int .i64) 2 w' w.heap.size (fun _=>True) v102 x5_1)∧J0 (Below w.heap.size w w'))
   case atStart=>exact⟨(0),(0),rs_,rs_,H',⟨Nat.le_refl _⟩,⟨ra_ HO_5.o⟩,⟨be_ HB.o⟩⟩
   case round=>
    clear H';clear c7b0;obtain⟨x7_2,x8_2,rfl,rfl,HA,HK2,HO_5,HB⟩:=hrel;cases gk with
    |zero=>exact absurd HA.o (by simp[spec_l10Default.l1])
    | succ k2=>
     have H:=HA.o;clear HA;simp only[spec_l10Default.l1]at H;by_cases c15:x8_2<a1;rotate_left
     ·rw[if_neg c15]at H;have c15b0:=df_ c15;clear c15;obtain rfl:=Option.some.inj H;go_wp2
      go_ret
      exact⟨rt_,be_ HB.o⟩
     rw[if_pos c15]at H;have c15b0:=dt_ c15;clear c15;obtain⟨c16,H⟩:=ip_ H;have c16b0:=dt_ c16;clear c16;obtain⟨c17,H⟩:=ip_ H;have c17b0:=dt_ c17;clear c17;obtain⟨c18,H⟩:=ip_ H;have c18b0:=dt_ c18;clear c18;obtain⟨c19,H⟩:=ip_ H;have c19b0:=dt_ c19;clear c19;by_cases c20:(rd x5_1 x8_2)>(rd x5_1 x7_2)
     ·rw[if_pos c20]at H;have c20b0:decide ((rd x5_1 x7_2)<(rd x5_1 x8_2))=true:=dt_ c20;clear c20;have H':=q_ H;clear H;obtain⟨Ao21,co21,eo21⟩:=Kd.R_slice HO_5.o;subst eo21;have p107:0≤(x8_2:Int):=ot_ as_;have q107:x8_2<(x5_1.length:Int):=ot_ as_;obtain⟨ad107,e107,hx107_0⟩:=Kd.at_int (Kd.R_reads' HO_5.o).2.2 x8_2 p107 q107;cases e107;replace p107:=eq_true p107;replace q107:=eq_true q107;have p108:0≤(x7_2:Int):=ot_ as_;have q108:x7_2<(x5_1.length:Int):=ot_ as_;obtain⟨ad108,e108,hx108_0⟩:=Kd.at_int (Kd.R_reads' HO_5.o).2.2 x7_2 p108 q108;obtain rfl:ad107=ad108:=(by injection e108);replace p108:=eq_true p108;replace q108:=eq_true q108;go_wp2
      repeat(go_quiet (fail);try go_wp2)
      go_roundg k2
      case measure=>have:=HK1.o;have:=HK2.o;omega
      case rel=>exact⟨(x8_2),(wrap64 (x8_2+1)),rs_,rs_,H',⟨by have:=HK1.o;have:=HK2.o;omega⟩,⟨ra_ HO_5.o⟩,⟨be_ HB.o⟩⟩
     rw[if_neg c20]at H;have c20b0:decide ((rd x5_1 x7_2)<(rd x5_1 x8_2))=false:=df_ c20;clear c20;have H':=q_ H;clear H;obtain⟨Ao22,co22,eo22⟩:=Kd.R_slice HO_5.o;subst eo22;have p107:0≤(x8_2:Int):=ot_ as_;have q107:x8_2<(x5_1.length:Int):=ot_ as_;obtain⟨ad107,e107,hx107_0⟩:=Kd.at_int (Kd.R_reads' HO_5.o).2.2 x8_2 p107 q107;cases e107;replace p107:=eq_true p107;replace q107:=eq_true q107;have p108:0≤(x7_2:Int):=ot_ as_;have q108:x7_2<(x5_1.length:Int):=ot_ as_;obtain⟨ad108,e108,hx108_0⟩:=Kd.at_int (Kd.R_reads' HO_5.o).2.2 x7_2 p108 q108;obtain rfl:ad107=ad108:=(by injection e108);replace p108:=eq_true p108;replace q108:=eq_true q108;go_wp2
     repeat(go_quiet (fail);try go_wp2)
     go_roundg k2
     case measure=>have:=HK1.o;have:=HK2.o;omega
     case rel=>exact⟨(x7_2),(wrap64 (x8_2+1)),rs_,rs_,H',⟨by have:=HK1.o;have:=HK2.o;omega⟩,⟨ra_ HO_5.o⟩,⟨be_ HB.o⟩⟩
end Go.Proofs.Ytlecpdpdcocibaa.P
namespace Go.Proofs.Ytlecpdpdcocibaa.P
open Go.RowKit Go.Shelf Go.Maps Go.Proofs.YtlecpdpdcocibaaW.PrintWords Go.Proofs.YtlecpdpdcocibaaW.PrintLast Go.Proofs.YtlecpdpdcocibaaW.PrintMore Go.Proofs.YtlecpdpdcocibaaEv
set_option linter.unusedVariables false
set_option linter.unusedSimpArgs false
structure Cnt (D:DataW Unit) (l:List Int):Prop where
 map:IsMap D
 look:∀x:Int,D.atKey (.int .i64 x) (.lit (.int .i64 0))= .lit (.int .i64 (l.count x:Nat))
 has:∀x:Int,Maps.has D (.int .i64 x)=decide (x∈l)
theorem Cnt.start:Cnt (.map []) []:=⟨⟨[],rfl⟩,fun x=>rfl,fun x=>rfl⟩
theorem Cnt.step{D:DataW Unit}{l:List Int}(h:Cnt D l)(x:Int):Cnt (D.put (.int .i64 x) (.lit (.int .i64 ((l.count x:Nat)+1)))) (l++ [x]):=by
 refine⟨h.map.put _ _,fun y=>?_,fun y=>?_⟩
 ·by_cases e:y=x
  ·subst e
   rw[atKey_put_same h.map (show WideAt.IsKeyLit (.int .i64 y)from trivial),List.count_append];simp
  ·rw[atKey_put_other (by simpa using e),h.look y,List.count_append,show[x].count y=0 from List.count_eq_zero_of_not_mem (by simpa using e)]
   rfl
 ·by_cases e:y=x
  ·subst e
   rw[has_put_same h.map (show WideAt.IsKeyLit (.int .i64 y)from trivial)];simp
  ·rw[has_put_other (by simpa using e),h.has y]
   simp[e]
def MostOf(l:List Int)(b:Int):Prop:=b∈l∧∀y∈l,l.count y<l.count b∨(l.count y=l.count b∧b≤y)
end Go.Proofs.Ytlecpdpdcocibaa.P
namespace Go.Proofs.Ytlecpdpdcocibaa.P
open Go.RowKit Go.Proofs.YtlecpdpdcocibaaW.PrintWords Go.Proofs.YtlecpdpdcocibaaW.PrintLast Go.Proofs.YtlecpdpdcocibaaEv
set_option linter.unusedVariables false
set_option linter.unusedSimpArgs false
def rowG(block:List Int)(next:List (List Int))(s:Int)(n:Nat):List Int:=(List.range n).map fun b:Nat=>rd (rd_L1 next s) (rd block (b:Int))
theorem rowG_succ(block:List Int)(next:List (List Int))(s:Int)(n:Nat):rowG block next s (n+1)=rowG block next s n++ [rd (rd_L1 next s) (rd block (n:Int))]:=by simp[rowG,List.range_succ]
theorem rowG_length(block:List Int)(next:List (List Int))(s:Int)(n:Nat):(rowG block next s n).length=n:=by simp[rowG]
def armStep(els:Int)(arms:List S81)(b x:Int):List S81:=
 if x=els then arms
 else if 0<arms.length∧(rd_T81 arms ((arms.length:Int)-1)).f1=b-1∧(rd_T81 arms ((arms.length:Int)-1)).f2=x then arms.set (arms.length-1) ⟨(rd_T81 arms ((arms.length:Int)-1)).f0,b,(rd_T81 arms ((arms.length:Int)-1)).f2⟩
 else arms++ [⟨b,b,x⟩]
def armsUp(els:Int)(row:List Int):Nat→List S81
 |0=>[]
 |b+1=>armStep els (armsUp els row b) (b:Int) (rd row (b:Int))
theorem armStep_length(els:Int)(arms:List S81)(b x:Int):(armStep els arms b x).length≤arms.length+1:=by
 unfold armStep;split
 ·omega
 ·split
  ·simp
  ·simp
theorem armsUp_length(els:Int)(row:List Int):∀b,(armsUp els row b).length≤b
 |0=>Nat.le_refl _
 |b+1=>Nat.le_trans (armStep_length _ _ _ _) (by have:=armsUp_length els row b;omega)
end Go.Proofs.Ytlecpdpdcocibaa.P
namespace Go.Proofs.Ytlecpdpdcocibaa.P
open Go.RowKit Go.Shelf Go.Proofs.YtlecpdpdcocibaaW.PrintWords Go.Proofs.YtlecpdpdcocibaaW.PrintLast Go.Proofs.YtlecpdpdcocibaaW.PrintMore Go.Proofs.YtlecpdpdcocibaaEv
set_option linter.unusedVariables false
set_option linter.unusedSimpArgs false
theorem infoArm_:(Try.prog.info? 81).map (fun i=>(i.zero,i.size,i.bytes))=some (some (.agg #[(.int .i64 0),(.int .i64 0),(.int .i64 0)]),3,24):=by kernel_rfl
end Go.Proofs.Ytlecpdpdcocibaa.P
namespace Go.Proofs.Ytlecpdpdcocibaa.P
open Go.RowKit Go.Proofs.YtlecpdpdcocibaaW.PrintWords Go.Proofs.YtlecpdpdcocibaaW.PrintLast Go.Proofs.YtlecpdpdcocibaaEv
set_option linter.unusedVariables false
set_option linter.unusedSimpArgs false
def bestUp(c:Nat→Nat):Nat→Nat
 |0=>0
 |s+1=>if c (bestUp c s)<c s then s else bestUp c s
theorem bestUp_lt(c:Nat→Nat):∀s,0<s→bestUp c s<s
 | s + 1,_=>by
   unfold bestUp;split
   ·omega
   · cases s with
     |zero=>exact Nat.zero_lt_one
     |succ s=>have:=bestUp_lt c (s+1) (by omega);omega
theorem bestUp_max(c:Nat→Nat):∀s t,t<s→c t<c (bestUp c s)∨(c t=c (bestUp c s)∧bestUp c s≤t)
  | s + 1,t,ht=>by
    unfold bestUp;split
    · rename_i h
      by_cases e:t=s
      ·subst e;exact .inr ⟨rfl,Nat.le_refl _⟩
      · have:=bestUp_max c s t (by omega)
        omega
    · rename_i h
      by_cases e:t=s
      · subst e
        by_cases z:t=0
        ·subst z;exact .inr ⟨rfl,Nat.le_refl _⟩
        · have:=bestUp_lt c t (by omega)
          omega
      ·exact bestUp_max c s t (by omega)
def cntR(row:List Int)(s:Nat):Nat:=row.count (s:Int)
def bestR(row:List Int)(states:Nat):Int:=(bestUp (cntR row) states:Nat)
theorem bestR_most(row:List Int)(states:Nat)(hne:0<row.length)(h:∀x∈row,0≤x∧x<(states:Int)):MostOf row (bestR row states):=by
 have key:∀y∈row,row.count y<row.count (bestR row states)∨(row.count y=row.count (bestR row states)∧bestR row states≤y):=by
  intro y hy;obtain⟨h0,h1⟩:=h y hy;obtain⟨t,rfl⟩:∃t:Nat,y=(t:Int):=⟨y.toNat,by omega⟩;have:=bestUp_max (cntR row) states t (by omega);obtain⟨b,hb⟩:∃b,b=bestUp (cntR row) states:=⟨_,rfl⟩;unfold bestR;rw[←hb]at this ⊢;have e1:cntR row t=row.count (t:Int):=rfl;have e2:cntR row b=row.count (b:Int):=rfl;omega
 refine⟨?_,key⟩;obtain⟨y,hy⟩:∃y,y∈row:=by
  cases row with
  |nil=>simp at hne
  |cons a r=>exact⟨a,List.mem_cons_self ..⟩
 have hp:0<row.count y:=List.count_pos_iff.2 hy;have:=key y hy;exact List.count_pos_iff.1 (by omega)
def blockG(l0:List Int)(l1:List (List Int))(l2:List Int)(s:Int):S79:=⟨rd l2 s,armsUp (bestR (rowG l0 l1 s 256) l1.length) (rowG l0 l1 s 256) 256,bestR (rowG l0 l1 s 256) l1.length⟩
def codeG(l0:List Int)(l1:List (List Int))(l2:List Int)(n:Nat):List S79:=(List.range n).map fun s:Nat=>blockG l0 l1 l2 (s:Int)
theorem codeG_succ(l0:List Int)(l1:List (List Int))(l2:List Int)(n:Nat):codeG l0 l1 l2 (n+1)=codeG l0 l1 l2 n++ [blockG l0 l1 l2 (n:Int)]:=by simp[codeG,List.range_succ]
theorem codeG_length(l0:List Int)(l1:List (List Int))(l2:List Int)(n:Nat):(codeG l0 l1 l2 n).length=n:=by simp[codeG]
def blk:List Int→Int→Option Int
 | [],n=>some n
 |x :: r,n=>if 0≤x∧x≤n then blk r (max n (x+1))else none
theorem blk_nonneg:∀(l:List Int) (n m:Int),0≤n→blk l n=some m→n≤m
 | [],n,m,h,e=>by simp[blk]at e;omega
 | x :: r,n,m,h,e=>by
   unfold blk at e;split at e
   · have:=blk_nonneg r _ m (by omega) e
     omega
   ·simp at e
theorem blk_all:∀(l:List Int) (n m:Int),0≤n→blk l n=some m→∀x∈l,0≤x∧x<m
  | [],n,m,h,e,y,hy=>by simp at hy
  | x :: r,n,m,h,e,y,hy=>by
    unfold blk at e;split at e
    · rename_i hx
      rcases List.mem_cons.1 hy with rfl|hy
      · have:=blk_nonneg r _ m (by omega) e
        omega
      ·exact blk_all r _ m (by omega) e y hy
    ·simp at e
theorem blk_le:∀(l:List Int) (n m:Int),0≤n→blk l n=some m→m≤n+l.length
 | [],n,m,h,e=>by simp[blk]at e;simp;omega
 | x :: r,n,m,h,e=>by
   unfold blk at e;split at e
   · have:=blk_le r _ m (by omega) e
     rw[List.length_cons];omega
   ·simp at e
def rowB(many n:Int)(l:List Int):Bool:=decide ((l.length:Int)=many)&&l.all fun x=>decide (0≤x∧x≤n-1)
def dfaB(l0:List Int)(l1:List (List Int))(l2:List Int):Bool:=
 decide (1≤(l1.length:Int)∧(l1.length:Int)≤1000)&&(decide ((l2.length:Int)=l1.length)&&((l2.all fun x=>decide (-1≤x∧x≤39))&&(match blk l0 0 with|some m=>decide (l0.length=256)&&l1.all (rowB m l1.length)|none=>false)))
theorem rd_mem{l:List Int}{i:Int}(h0:0≤i)(h1:i<l.length):rd l i∈l:=by
 unfold rd;rw[List.getD_eq_getElem?_getD,List.getElem?_eq_getElem (show i.toNat<l.length by omega)];exact List.getElem_mem _
theorem rd1_mem{l:List (List Int)}{i:Int}(h0:0≤i)(h1:i<l.length):rd_L1 l i∈l:=by
 unfold rd_L1;rw[List.getD_eq_getElem?_getD,List.getElem?_eq_getElem (show i.toNat<l.length by omega)];exact List.getElem_mem _
structure DfaR (l0:List Int) (l1:List (List Int)) (l2:List Int) (m:Int):Prop where
 rows:1≤l1.length∧l1.length≤1000
 acc:l2.length=l1.length
 accs:∀x∈l2, -1≤x∧x≤39
 bytes:l0.length=256
 blks:blk l0 0=some m
 width:∀r∈l1,(r.length:Int)=m
 leads:∀r∈l1,∀x∈r,0≤x∧x<(l1.length:Int)
theorem dfaB_true{l0:List Int}{l1:List (List Int)}{l2:List Int}(h:dfaB l0 l1 l2=true):∃m,DfaR l0 l1 l2 m:=by
 unfold dfaB at h;cases hb:blk l0 0 with
 |none=>rw[hb]at h;simp at h
 | some m=>
   rw[hb]at h;simp only[Bool.and_eq_true,decide_eq_true_eq,List.all_eq_true,rowB]at h;obtain⟨h1,h2,h3,h4,h5⟩:=h;exact⟨m,⟨by omega,by omega,h3,h4,hb,fun r hr=>(h5 r hr).1,fun r hr x hx=>by have:=(h5 r hr).2 x hx;omega⟩⟩
section
variable {l0:List Int} {l1:List (List Int)} {l2:List Int} {m:Int}
theorem DfaR.at_(h:DfaR l0 l1 l2 m)(s:Int)(h0:0≤s)(h1:s<l1.length)(b:Nat)(hb:b<256):0≤rd l0 (b:Int)∧rd l0 (b:Int)<((rd_L1 l1 s).length:Int):=by
 have hx:=blk_all l0 0 m (by omega) h.blks _ (rd_mem (l:=l0) (i:=(b:Int)) (by omega) (by have:=h.bytes;omega));have:=h.width _ (rd1_mem h0 h1);omega
theorem DfaR.to_(h:DfaR l0 l1 l2 m)(s:Int)(h0:0≤s)(h1:s<l1.length)(x:Int)(hx:x∈rowG l0 l1 s 256):0≤x∧x<(l1.length:Int):=by
 unfold rowG at hx;obtain⟨b,hb,rfl⟩:=List.mem_map.1 hx;rw[List.mem_range]at hb;obtain⟨q0,q1⟩:=h.at_ s h0 h1 b hb;exact h.leads _ (rd1_mem h0 h1) _ (rd_mem q0 q1)
theorem DfaR.most(h:DfaR l0 l1 l2 m)(s:Int)(h0:0≤s)(h1:s<l1.length):MostOf (rowG l0 l1 s 256) (bestR (rowG l0 l1 s 256) l1.length):=
 bestR_most _ _ (by rw[rowG_length];omega) (h.to_ s h0 h1)
end
end Go.Proofs.Ytlecpdpdcocibaa.P
namespace Go.Proofs.Ytlecpdpdcocibaa.P
open Go.RowKit Go.Proofs.YtlecpdpdcocibaaW.PrintWords Go.Proofs.YtlecpdpdcocibaaW.PrintLast Go.Proofs.YtlecpdpdcocibaaEv
set_option linter.unusedVariables false
set_option linter.unusedSimpArgs false
def counts(row:List Int)(states i:Nat):List Int:=(List.range states).map fun s:Nat=>(((row.take i).count (s:Int):Nat):Int)
theorem counts_length(row:List Int)(states i:Nat):(counts row states i).length=states:=by simp[counts]
theorem rd_counts(row:List Int)(states i:Nat)(x:Int)(h0:0≤x)(h1:x<(states:Int)):rd (counts row states i) x=(((row.take i).count x:Nat):Int):=by
 obtain⟨t,rfl⟩:∃t:Nat,x=(t:Int):=⟨x.toNat,by omega⟩;have ht:t<states:=by omega
 simp[rd,counts,ht]
theorem counts_step(row:List Int)(states i:Nat)(hi:i<row.length)(h0:0≤rd row (i:Int))(h1:rd row (i:Int)<(states:Int)):(counts row states i).set (rd row (i:Int)).toNat (rd (counts row states i) (rd row (i:Int))+1)=counts row states (i+1):=by
 have hr:rd row (i:Int)=row[i]:=by simp[rd,hi]
 rw[rd_counts row states i _ h0 h1];have htk:row.take (i+1)=row.take i++ [row[i]]:=List.take_succ_eq_append_getElem hi;rw[hr]at h0 h1 ⊢;apply List.ext_getElem
 ·simp[counts]
 ·intro j h2 h3
  have hj:j<states:=by simpa[counts]using h3
  simp only[counts,htk,List.getElem_set,List.getElem_map,List.getElem_range,List.count_append];by_cases e:row[i]=(j:Int)
  ·rw[if_pos (by omega),e]
   simp
  ·rw[if_neg (by omega),show[row[i]].count (j:Int)=0 from List.count_eq_zero_of_not_mem (by simpa using fun h=>e h.symm)]
   rfl
theorem spec_l10Default_ev(row:List Int)(states:Nat)(hs:1≤states∧states≤1000)(hl:row.length≤256)(h:∀x∈row,0≤x∧x<(states:Int)):Ev (fun k=>spec_l10Default.f k row (states:Int)) (bestR row states):=by
  unfold spec_l10Default.f;simp only[ev_ite];rw[if_pos (by omega),if_pos (by omega),Int.toNat_natCast];have hz:List.replicate states (0:Int)=counts row states 0:=by
   apply List.ext_getElem
   ·simp[counts]
   ·intro j h2 h3
    simp[counts]
  rw[hz];refine ev_loop row.length (fun k i=>spec_l10Default.l0 k row (states:Int) (counts row states i) (i:Nat)) (fun _=>bestR row states) ?_ ?_ 0 (by omega)
  · rw [ev_succ]
    simp only[spec_l10Default.l0];simp only[Int.lt_irrefl,if_false];have hc:∀t:Nat,t<states→rd (counts row states row.length) (t:Int)=(cntR row t:Int):=fun t ht=>by
     rw[rd_counts row states _ _ (by omega) (by omega),List.take_length];rfl
    refine ev_loop states (fun k i=>spec_l10Default.l1 k (states:Int) (counts row states row.length) (bestUp (cntR row) i:Nat) (i:Nat)) (fun _=>bestR row states) ?_ ?_ 0 (by omega)
    ·rw[ev_succ]
     simp only[spec_l10Default.l1];simp only[Int.lt_irrefl,if_false];exact ev_some.2 rfl
    · intro i hi ih
      have hb:bestUp (cntR row) i<states:=by
        cases i with
        |zero=>simp[bestUp];omega
        |succ i=>have:=bestUp_lt (cntR row) (i+1) (by omega);omega
      rw[ev_succ];simp only[spec_l10Default.l1,ev_ite,counts_length];rw[if_pos (by omega),if_pos (by omega),if_pos (by omega),if_pos (by omega),if_pos (by omega),wrap_succ hi (by omega),hc i hi,hc _ hb];simp only[bestUp]at ih;by_cases e:cntR row (bestUp (cntR row) i)<cntR row i
      · rw[if_pos e]at ih
        rw[if_pos (by omega)];exact ih
      · rw[if_neg e]at ih
        rw[if_neg (by omega)];exact ih
  ·intro i hi ih
   have hm:rd row (i:Int)∈row:=rd_mem (by omega) (by omega);obtain⟨h0,h1⟩:=h _ hm;rw[ev_succ];simp only[spec_l10Default.l0,ev_ite,counts_length];have hle:(row.take i).count (rd row (i:Int))≤256:=Nat.le_trans List.count_le_length (by simp;omega);have hw:wrap64 (rd (counts row states i) (rd row (i:Int))+1)=rd (counts row states i) (rd row (i:Int))+1:=by
    rw[rd_counts row states i _ h0 h1];exact wrap_id (by omega) (by omega)
   rw[if_pos (by omega),if_pos (by omega),if_pos h0,if_pos h1,wrap_succ hi (by omega),hw,counts_step row states i hi h0 h1];exact ih
def blkS(l0:List Int):Int:=if l0.length=256 then(match blk l0 0 with|some m=>m|none=> -1)else -1
theorem drop_rd(l:List Int)(i:Nat)(h:i<l.length):l.drop i=rd l (i:Int) :: l.drop (i+1):=by
 rw[drop_cons l 0 i h];simp[rd]
theorem spec_l7Blocks_ev(l0:List Int):Ev (fun k=>spec_l7Blocks.f k l0) (blkS l0):=by
  unfold spec_l7Blocks.f blkS;simp only[ev_ite];by_cases h256:l0.length=256;rotate_left
  ·rw[if_neg (by omega),if_neg h256]
   exact ev_some.2 rfl
  rw[if_pos (by omega),if_pos h256];have key:=down 256 (fun i=>∀n:Int,0≤n→n≤(i:Int)→Ev (fun k=>spec_l7Blocks.l0 k l0 n (i:Nat)) (match blk (l0.drop i) n with|some m=>m|none=> -1)) ?_ ?_ 0 (by omega) 0 (by omega) (by omega)
  ·simpa using key
  ·intro n h0 h1
   rw[ev_succ];simp only[spec_l7Blocks.l0];rw[show l0.drop 256= [] by rw[List.drop_eq_nil_iff];omega];simp[blk,ev_some]
  · intro i hi ih n h0 h1
    rw[ev_succ,drop_rd l0 i (by omega)];simp only[spec_l7Blocks.l0,ev_ite];rw[if_pos (by omega),if_pos (by omega),if_pos (by omega),spec_l1In_eq,ev_bind_some];simp only[ev_ite,decide_eq_true_eq,blk];by_cases hx:0≤rd l0 (i:Int)∧rd l0 (i:Int)≤n
    · rw[if_pos hx,if_pos hx,wrap_succ hi (by omega),wrap_id (by omega) (by omega)]
      refine ev_congr (ih _ ?_ ?_) ?_
      ·unfold mx;split<;>omega
      ·unfold mx;split<;>omega
      · have:mx n (rd l0 (i:Int)+1)=max n (rd l0 (i:Int)+1):=by unfold mx;split<;>omega
        rw[this]
    ·rw[if_neg hx,if_neg hx]
     exact ev_some.2 rfl
end Go.Proofs.Ytlecpdpdcocibaa.P
