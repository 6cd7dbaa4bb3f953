/- The law FnFuel holds for every call: part 7 of 7 of the proof (the row). Conditions: none beyond what the given row says. -/
import Derived.Test.YtlecpdpdcocibaaMFnFuel3
import Derived.Test.YtlecpdpdcocibaaMFnFuel1
import Derived.Test.YtlecpdpdcocibaaMFnFuel4
import Derived.Test.YtlecpdpdcocibaaMFnFuel2
import Derived.Shelf.Abstract
import Derived.Lib.Hide
import Derived.Test.YtlecpdpdcocibaaMFnFuel0
import Derived.Test.YtlecpdpdcocibaaMFnFuel5
import Derived.SizedLaws
import Derived.ChangeSlices
import Derived.Test.YtlecpdpdcocibaaRows
import Derived.WalkKit
import Derived.ProofKit
import Derived.OpenShut
import Derived.ShutString
import Derived.ChangeOld
import Derived.Below
set_option maxHeartbeats 16000000
set_option maxRecDepth 100000
namespace Go.Proofs.Ytlecpdpdcocibaa.P
open Go.RowKit Go.Proofs.YtlecpdpdcocibaaW.PrintWords Go.Proofs.YtlecpdpdcocibaaW.PrintLast Go.Proofs.YtlecpdpdcocibaaW.PrintMore Go.Proofs.YtlecpdpdcocibaaEv
set_option linter.unusedVariables false
set_option linter.unusedSimpArgs false
def Dr(b:List Int)(p:Int):Prop:=(∀x∈b,0≤x∧x≤255)∧0≤p∧p≤b.length∧b.length≤1048576
theorem next_ok{b:List Int}{p:Int}(h:Dr b p):∃v p',spec_l1Rd_next.f b p=some (v,p')∧0≤v∧v≤255∧Dr b p':=by
 obtain⟨hb,h0,h1,h2⟩:=h;unfold spec_l1Rd_next.f;by_cases hp:p≥(b.length:Int)
 ·rw[if_pos hp]
  exact⟨0,p,rfl,by omega,by omega,hb,h0,h1,h2⟩
 ·rw[if_neg hp,wrap_id (x:=p+1) (by omega) (by omega),show p+1-1=p by omega,wrap_id (x:=p) (by omega) (by omega),if_pos h0,if_pos (by omega)]
  have hm:=hb (rd b p) (by
   unfold rd;rw[List.getD_eq_getElem?_getD,List.getElem?_eq_getElem (by omega)];exact List.getElem_mem _)
  rw[wrap_id (x:=rd b p) (by omega) (by omega)];exact⟨_,_,rfl,hm.1,hm.2,hb,by omega,by omega,h2⟩
theorem tmod_ok{x n:Int}(h0:0≤x)(hn:0<n):0≤Int.tmod x n∧Int.tmod x n<n:=by
 rw[Int.tmod_eq_emod_of_nonneg h0];exact⟨Int.emod_nonneg _ (by omega),Int.emod_lt_of_pos _ hn⟩
theorem below_ok{b:List Int}{p:Int}(h:Dr b p)(n:Int):∃v p',spec_l1Rd_below.f b p n=some (v,p')∧0≤v∧(1≤n→v<n)∧Dr b p':=by
 unfold spec_l1Rd_below.f;by_cases h1:n≤1
 ·rw[if_pos h1]
  exact⟨0,p,rfl,by omega,by omega,h⟩
 rw[if_neg h1];obtain⟨v,q,e,hv0,hv1,hq⟩:=next_ok h;by_cases h2:n≤256
 ·rw[if_pos h2,e]
  simp only[Option.bind_some];rw[if_neg (by omega)];have:=tmod_ok hv0 (show 0<n by omega);exact⟨_,_,rfl,this.1,fun _=>this.2,hq⟩
 ·rw[if_neg h2,e]
  simp only[Option.bind_some];obtain⟨v2,q2,e2,hw0,hw1,hq2⟩:=next_ok hq;rw[e2];simp only[Option.bind_some];rw[if_neg (by omega),wrap_id (x:=v*256) (by omega) (by omega),wrap_id (x:=v*256+v2) (by omega) (by omega)];have:=tmod_ok (show 0≤v*256+v2 by omega) (show 0<n by omega);exact⟨_,_,rfl,this.1,fun _=>this.2,hq2⟩
theorem once_ok{b:List Int}{p:Int}(h:Dr b p)(n:Int):∃v p',spec_l1Rd_once.f b p n=some (v,p')∧Dr b p':=by
 unfold spec_l1Rd_once.f;obtain⟨v,q,e,_,_,hq⟩:=below_ok h n;rw[e];exact⟨_,_,rfl,hq⟩
theorem word_ok{b:List Int}:∀(n:Nat) (i:Int) (x p:Int),Dr b p→0≤i→8-i=n→∃v p',Ev (fun k=>spec_l1Rd_word.l0 k x i b p) (v,p')∧Dr b p':=by
 intro n
 induction n with
 | zero=>
   intro i x p h h0 hi;refine⟨x,p,?_,h⟩;rw[ev_succ];simp only[spec_l1Rd_word.l0,ev_ite,ev_some];rw[if_neg (by omega)];trivial
 | succ n ih=>
   intro i x p h h0 hi;obtain⟨v,q,e,_,_,hq⟩:=next_ok h;obtain⟨r,q2,e2,hq2⟩:=ih (i+1) (Go.bits .or .u64 (IntKind.u64.wrap (x*256)) (IntKind.u64.wrap v)) q hq (by omega) (by omega);refine⟨r,q2,?_,hq2⟩;rw[ev_succ];simp only[spec_l1Rd_word.l0,ev_ite,e,Option.bind_some];rw[if_pos (by omega),wrap_id (x:=i+1) (by omega) (by omega)];exact e2
def inAny(l:List S163)(b:Nat):Bool:=l.any fun x=>decide (x.f0≤(b:Int)∧(b:Int)≤x.f1)
theorem inAny_take(l:List S163)(k:Nat)(h:k<l.length)(b:Nat):inAny (l.take (k+1)) b=(inAny (l.take k) b||decide ((rd_T163 l (k:Int)).f0≤(b:Int)∧(b:Int)≤(rd_T163 l (k:Int)).f1)):=by
 have e:rd_T163 l (k:Int)=l[k]:=by simp[rd_T163,h]
 unfold inAny;rw[List.take_succ_eq_append_getElem h,List.any_append,e];simp
def addRun(xs:List S163)(b:Int):List S163:=if 0<xs.length then(if(rd_T163 xs ((xs.length:Int)-1)).f1=b-1 then xs.set ((xs.length:Int)-1).toNat ⟨(rd_T163 xs ((xs.length:Int)-1)).f0,b⟩else xs++ [⟨b,b⟩])else xs++ [⟨b,b⟩]
def classTo(p:Nat→Bool):Nat→List S163
 |0=>[]
 |n+1=>if p n=true then addRun (classTo p n) (n:Int)else classTo p n
theorem addRun_length(xs:List S163)(b:Int):(addRun xs b).length≤xs.length+1:=by
 unfold addRun;split
 ·split<;>simp
 ·simp
theorem classTo_length(p:Nat→Bool):∀n,(classTo p n).length≤n
 |0=>Nat.le_refl _
 | n+1=>by
   have:=classTo_length p n;unfold classTo;split
   ·have:=addRun_length (classTo p n) (n:Int);omega
   ·omega
theorem spansR_bounds:∀(l:List S163) (last:Int),spansR last l=true→∀x∈l,0≤x.f0∧x.f1≤255
 | [],_,_=>fun x hx=>by simp at hx
 | s :: rest,last,h=>fun x hx=>by
   simp only[spansR,Bool.and_eq_true,decide_eq_true_eq]at h;rcases List.mem_cons.1 hx with rfl|hx
   ·exact⟨h.1.1.1.1,h.1.1.2⟩
   ·exact spansR_bounds rest s.f1 h.2 x hx
theorem class_bounds(l:List S163)(h:classB l=true):∀x∈l,0≤x.f0∧x.f1≤255:=spansR_bounds l (-2) h
def endR:Int→List S163→Int
 |last,[]=>last
 | _,s :: rest=>endR s.f1 rest
theorem spansR_snoc(y:S163):∀(l:List S163) (last:Int),spansR last (l++ [y])=(spansR last l&&spansR (endR last l) [y])
 | [],last=>rfl
 | s :: l,last=>by
   have h:=spansR_snoc y l s.f1;show(_&&spansR s.f1 (l++ [y]))=((_&&spansR s.f1 l)&&spansR (endR s.f1 l) [y])
   rw[h,←Bool.and_assoc]
theorem endR_snoc(y:S163):∀(l:List S163) (last:Int),endR last (l++ [y])=y.f1
 | [],_=>rfl
 |s :: l,_=>by simp only[List.cons_append,endR,endR_snoc y l s.f1]
theorem inAny_snoc(y:S163)(l:List S163)(i:Nat):inAny (l++ [y]) i=(inAny l i||decide (y.f0≤(i:Int)∧(i:Int)≤y.f1)):=by
 simp[inAny]
theorem rd_snoc(y:S163)(l:List S163)(J:Int)(h:J=(l.length:Int)):rd_T163 (l++ [y]) J=y:=by
 subst h;simp[rd_T163]
theorem set_snoc(y z:S163)(l:List S163)(J:Int)(h:J=(l.length:Int)):(l++ [y]).set J.toNat z=l++ [z]:=by
 subst h;simp
theorem addRun_right(xs:List S163)(b:Nat)(hb:b≤255)(h:spansR (-2) xs=true)(he:endR (-2) xs<(b:Int))(hq: -2≤endR (-2) xs):
    spansR (-2) (addRun xs (b:Int))=true∧endR (-2) (addRun xs (b:Int))=(b:Int)∧∀i:Nat,inAny (addRun xs (b:Int)) i=(inAny xs i||decide (i=b)):=by
  rcases List.eq_nil_or_concat xs with h0| ⟨l,y,h0⟩
  ·subst h0
   refine⟨?_,?_,?_⟩
   ·simp[addRun,spansR];omega
   ·simp[addRun,endR]
   ·intro i
    simp only[addRun,inAny,List.length_nil,List.any_nil,Bool.false_or,List.nil_append,List.any_cons,Bool.or_false];rw[if_neg (by omega)];simp only[List.any_cons,List.any_nil,Bool.or_false];exact decide_eq_decide.2 (by omega)
  · rw [List.concat_eq_append]at h0
    subst h0;rw[endR_snoc]at he hq;have hs:=h;rw[spansR_snoc]at hs;simp only[spansR,Bool.and_eq_true,decide_eq_true_eq,and_true]at hs;obtain⟨hl,⟨⟨hy0,hy1⟩,hy2⟩,hy3⟩:=hs;unfold addRun;rw[if_pos (by simp),rd_snoc y l _ (by simp),set_snoc y _ l _ (by simp)];by_cases hj:y.f1=(b:Int)-1
    · rw[if_pos hj]
      refine⟨?_,endR_snoc _ _ _,?_⟩
      · rw[spansR_snoc,hl]
        simp only[spansR,Bool.true_and,Bool.and_eq_true,decide_eq_true_eq,and_true];omega
      · intro i
        rw[inAny_snoc,inAny_snoc,Bool.or_assoc];congr 1;rw[←Bool.decide_or];refine decide_eq_decide.2 ?_;dsimp only;omega
    · rw[if_neg hj]
      refine⟨?_,endR_snoc _ _ _,?_⟩
      · rw[spansR_snoc,h,endR_snoc]
        simp only[spansR,Bool.true_and,Bool.and_eq_true,decide_eq_true_eq,and_true];omega
      · intro i
        rw[inAny_snoc];congr 1;refine decide_eq_decide.2 ?_;dsimp only;omega
theorem classTo_right(p:Nat→Bool):∀n:Nat,n≤256→spansR (-2) (classTo p n)=true∧(-2≤endR (-2) (classTo p n)∧endR (-2) (classTo p n)<(n:Int))∧∀i:Nat,inAny (classTo p n) i=(decide (i<n)&&p i)
 |0,_=>⟨rfl,by simp[classTo,endR],fun i=>by simp[classTo,inAny]⟩
 | n + 1,hn=>by
   obtain⟨h1,⟨h2,h2'⟩,h3⟩:=classTo_right p n (by omega);unfold classTo;cases hp:p n
   · rw[if_neg (by simp)]
     refine⟨h1,⟨h2,by omega⟩,fun i=>?_⟩;rw[h3];by_cases hi:i=n
     ·subst hi;simp[hp]
     ·rw[decide_eq_decide.2 (show(i<n)↔(i<n+1) by omega)]
   · rw[if_pos rfl]
     obtain⟨g1,g2,g3⟩:=addRun_right (classTo p n) n (by omega) h1 h2' h2;refine⟨g1,⟨by omega,by omega⟩,fun i=>?_⟩;rw[g3,h3];by_cases hi:i=n
     ·subst hi;simp[hp]
     ·rw[decide_eq_decide.2 (show(i<n)↔(i<n+1) by omega),decide_eq_false hi,Bool.or_false]
theorem classB_to(p:Nat→Bool)(n:Nat)(hn:n=256):classB (classTo p n)=true:=(classTo_right p n (by omega)).1
def flagsL(p:Nat→Bool):List Bool:=(List.range 256).map p
theorem flagsL_length(p:Nat→Bool):(flagsL p).length=256:=by simp[flagsL]
theorem flagsL_rd(p:Nat→Bool)(i:Nat)(h:i<256):rdOf false (flagsL p) (i:Int)=p i:=by
 simp[rdOf,flagsL,h]
theorem flagsL_set(p:Nat→Bool)(i:Nat)(b:Bool):(flagsL p).set i b=flagsL fun j=>if j=i then b else p j:=by
 apply List.ext_getElem
 ·simp[flagsL]
 ·intro n h1 h2
  simp only[flagsL,List.getElem_set,List.getElem_map,List.getElem_range];by_cases h:i=n
  ·rw[if_pos h,if_pos h.symm]
  ·rw[if_neg h,if_neg (Ne.symm h)]
theorem flagsL_congr(p q:Nat→Bool)(h:∀i,p i=q i):flagsL p=flagsL q:=by rw[funext h]
theorem spec_l1Marks_l1(l:List S163)(i:Nat)(hi:i<l.length)(hf1:(rd_T163 l (i:Int)).f1≤255)(hl:l.length≤9223372036854775807)
   (ih:∀p:Nat→Bool,Ev (fun k=>spec_l1Marks.l0 k l (flagsL p) ((i+1:Nat):Int)) (flagsL fun b=>p b||inAny (l.drop (i+1)) b)):
   ∀(n x:Nat) (p:Nat→Bool),((rd_T163 l (i:Int)).f1+1-(x:Int)).toNat=n→Ev (fun k=>spec_l1Marks.l1 k l (flagsL p) (i:Int) (x:Int)) (flagsL fun b=>(p b||decide ((x:Int)≤(b:Int)∧(b:Int)≤(rd_T163 l (i:Int)).f1))||inAny (l.drop (i+1)) b):=by
 intro n
 induction n with
 | zero=>
   intro x p hn;rw[ev_succ];simp only[spec_l1Marks.l1,ev_ite];rw[if_pos (by omega),if_pos (by omega),if_neg (by omega),wrap_succ hi hl];refine ev_congr (ih p) (flagsL_congr _ _ fun b=>?_);rw[decide_eq_false (by omega),Bool.or_false]
 | succ n ihn=>
   intro x p hn;rw[ev_succ];simp only[spec_l1Marks.l1,ev_ite];rw[if_pos (by omega),if_pos (by omega),if_pos (by omega),if_pos (by omega),flagsL_length,if_pos (by omega),Int.toNat_natCast,flagsL_set,wrap_succ (m:=256) (by omega) (by omega)];refine ev_congr (ihn (x+1) _ (by omega)) (flagsL_congr _ _ fun b=>?_);congr 1;by_cases hb:b=x
   ·subst hb
    rw[if_pos rfl,decide_eq_true (p:=(b:Int)≤b∧_) (by omega),Bool.true_or,Bool.or_true]
   ·rw[if_neg hb]
    congr 1;exact decide_eq_decide.2 (by omega)
theorem spec_l1Marks_ev(l:List S163)(hc:classB l=true):Ev (fun k=>spec_l1Marks.f k l) (flagsL (inAny l)):=by
  have hl:=classB_few hc;have hbd:=class_bounds l hc;have key:∀i:Nat,i≤l.length→∀p:Nat→Bool,Ev (fun k=>spec_l1Marks.l0 k l (flagsL p) (i:Int)) (flagsL fun b=>p b||inAny (l.drop i) b):=by
    refine down l.length _ ?_ ?_
    ·intro p
     rw[ev_succ];simp only[spec_l1Marks.l0,ev_ite];rw[if_neg (by omega)];exact ev_some.2 (flagsL_congr _ _ fun b=>by simp[inAny])
    · intro i hi ih p
      have hm:rd_T163 l (i:Int)∈l:=by
        unfold rd_T163;rw[Int.toNat_natCast,List.getD_eq_getElem?_getD,List.getElem?_eq_getElem hi];exact List.getElem_mem _
      have hb:=hbd _ hm;have hx:=spec_l1Marks_l1 l i hi hb.2 (by omega) ih _ (rd_T163 l (i:Int)).f0.toNat p rfl;rw[Int.toNat_of_nonneg hb.1]at hx;rw[ev_succ];simp only[spec_l1Marks.l0,ev_ite];rw[if_pos (by omega),if_pos (by omega)];refine ev_congr hx (flagsL_congr _ _ fun b=>?_);have hd:l.drop i=rd_T163 l (i:Int) :: l.drop (i+1):=drop_cons l _ i hi;rw[hd,Bool.or_assoc];rfl
  unfold spec_l1Marks.f;rw[ev_ite,if_pos (by omega)];have h0:=key 0 (by omega) (fun _=>false);rw[show(List.replicate 256 false)=flagsL (fun _=>false) by unfold flagsL;rw[List.map_const',List.length_range]];exact ev_congr h0 (flagsL_congr _ _ fun b=>by simp)
theorem spec_l1Class_ev(p:Nat→Bool)(N:Nat)(hN:N=256):Ev (fun k=>spec_l1Class.f k (flagsL p)) (classTo p N):=by
  have key :∀i:Nat,i≤N→Ev (fun k=>spec_l1Class.l0 k (flagsL p) (classTo p i) (i:Int)) (classTo p N):=by
    refine down N _ ?_ ?_
    ·rw[ev_succ]
     simp only[spec_l1Class.l0,ev_ite];rw[if_neg (by omega)];exact ev_some.2 rfl
    · intro i hi ih
      have hlen:=classTo_length p i;rw[ev_succ];simp only[spec_l1Class.l0,ev_ite];rw[flagsL_length,if_pos (by omega),if_pos (by omega),if_pos (by omega),flagsL_rd p i (by omega),wrap_succ (m:=256) (by omega) (by omega)];have hst:classTo p (i+1)=if p i=true then addRun (classTo p i) (i:Int)else classTo p i:=rfl
      rw[hst]at ih;generalize classTo p i=xs at *;cases hp:p i
      · rw[hp,if_neg (by simp)]at ih
        rw[if_neg (by simp)];exact ih
      · rw [hp,if_pos rfl]at ih
        rw[if_pos rfl];unfold addRun at ih;by_cases h0:0<xs.length
        · rw[if_pos h0]at ih
          rw[if_pos (by omega),wrap_id (x:=(xs.length:Int)-1) (by omega) (by omega),wrap_id (x:=(i:Int)-1) (by omega) (by omega),if_pos (by omega),if_pos (by omega)];by_cases h1:(rd_T163 xs ((xs.length:Int)-1)).f1=(i:Int)-1
          · rw[if_pos h1]at ih ⊢
            exact ih
          · rw[if_neg h1]at ih ⊢
            rw[if_pos (by omega)];exact ih
        ·rw[if_neg h0]at ih
         rw[if_neg (by omega),if_pos (by omega)];exact ih
  exact key 0 (by omega)
theorem or_nonneg(a b:Int):0≤Go.bits .or .u64 a b:=by
 unfold Go.bits;simp only[];rw[IntKind.wrap_u64];omega
theorem word_in{b:List Int}:∀(n:Nat) (i:Int) (x p:Int),Dr b p→0≤i→8-i=n→0≤x→∃v p',Ev (fun k=>spec_l1Rd_word.l0 k x i b p) (v,p')∧Dr b p'∧0≤v:=by
 intro n
 induction n with
 | zero=>
   intro i x p h h0 hi hx;refine⟨x,p,?_,h,hx⟩;rw[ev_succ];simp only[spec_l1Rd_word.l0,ev_ite,ev_some];rw[if_neg (by omega)];trivial
 | succ n ih=>
   intro i x p h h0 hi hx;obtain⟨v,q,e,_,_,hq⟩:=next_ok h;obtain⟨r,q2,e2,hq2⟩:=ih (i+1) (Go.bits .or .u64 (IntKind.u64.wrap (x*256)) (IntKind.u64.wrap v)) q hq (by omega) (by omega) (or_nonneg _ _);refine⟨r,q2,?_,hq2⟩;rw[ev_succ];simp only[spec_l1Rd_word.l0,ev_ite,e,Option.bind_some];rw[if_pos (by omega),wrap_id (x:=i+1) (by omega) (by omega)];exact e2
theorem near_in{b:List Int}{p:Int}(h:Dr b p)(lo hi:Int)(hl:0≤lo)(hh:hi≤1000000000)(hlh:lo≤hi):∃v p',Ev (fun k=>spec_l1Rd_near.f k b p lo hi) (v,p')∧Dr b p'∧lo≤v∧v≤hi:=by
 unfold spec_l1Rd_near.f;obtain⟨v,q,e,_,_,hq⟩:=below_ok h 8;rw[e];simp only[Option.bind_some,ev_ite];by_cases h0:v=0
 ·exact⟨_,_,by rw[if_pos h0];exact ev_some.2 rfl,hq,by omega,by omega⟩
 by_cases h1:v=1
 ·exact⟨_,_,by rw[if_neg h0,if_pos h1];exact ev_some.2 rfl,hq,by omega,by omega⟩
 obtain⟨x,q2,e2,hq2,hx0⟩:=word_in 8 0 0 q hq (by omega) (by omega) (by omega);have e3:Ev (fun k=>spec_l1Rd_word.f k b q) (x,q2):=e2;have hw:IntKind.u64.wrap (hi-lo+1)=hi-lo+1:=by
  rw[IntKind.wrap_u64];omega
 have hm:=tmod_ok (show 0≤x / 2 by omega) (show 0<hi-lo+1 by omega);refine⟨wrap64 (lo+wrap64 (Int.tmod (x / 2) (hi-lo+1))),q2,?_,hq2,?_⟩
 ·rw[if_neg h0,if_neg h1,if_neg (by omega),ev_bind e3,wrap_id (x:=hi-lo) (by omega) (by omega),wrap_id (x:=hi-lo+1) (by omega) (by omega),hw]
  simp only[ev_ite];rw[if_neg (by omega)];exact ev_some.2 rfl
 ·rw[wrap_id (x:=Int.tmod (x / 2) (hi-lo+1)) (by omega) (by omega),wrap_id (by omega) (by omega)]
  omega
theorem flags_of(l:List Bool)(h:l.length=256):∃p,l=flagsL p:=by
 refine⟨fun i=>l.getD i false,?_⟩;apply List.ext_getElem
 ·simp[flagsL,h]
 ·intro i h1 h2
  simp[flagsL,List.getD_eq_getElem?_getD,h1]
theorem l1Class_ok(l:List Bool)(h:l.length=256):∃s,Ev (fun k=>spec_l1Class.f k l) s∧classB s=true:=by
 obtain⟨p,rfl⟩:=flags_of l h;exact⟨_,spec_l1Class_ev p 256 rfl,classB_to p 256 rfl⟩
def ClsD(b:List Int)(g:Nat→Option (List S163 × Int)):Prop:=∃s q,Ev g (s,q)∧Dr b q∧classB s=true
theorem class_l1{b:List Int}{x4 x5:Int}(h5:0≤x5∧x5≤300)(hN:∀(m:List Bool) (p:Int),m.length=256→Dr b p→ClsD b (fun k=>spec_l1Rd_class.l0 k m (wrap64 (x4-1)) b p)):
   ∀(n:Nat) (x6:Int) (m:List Bool) (p:Int),(256-x6).toNat=n→0≤x6→x6≤400→m.length=256→Dr b p→ClsD b (fun k=>spec_l1Rd_class.l1 k m x4 x5 x6 b p):=by
 intro n
 induction n with
 | zero=>
   intro x6 m p hn h0 h4 hm hp;obtain⟨s,q,e,hq,hs⟩:=hN m p hm hp;refine⟨s,q,?_,hq,hs⟩;rw[ev_succ];simp only[spec_l1Rd_class.l1,ev_ite];rw[if_neg (by omega)];exact e
 | succ n ih=>
   intro x6 m p hn h0 h4 hm hp;obtain⟨v,q,e,v0,v1,hq⟩:=below_ok hp 6;have v1:=v1 (by omega);by_cases hc:x6≤x5+v
   ·obtain⟨s,q2,e2,hq2,hs⟩:=ih (x6+1) (m.set x6.toNat true) q (by omega) (by omega) (by omega) (by simp[hm]) hq
    refine⟨s,q2,?_,hq2,hs⟩;rw[ev_succ];simp only[spec_l1Rd_class.l1,ev_ite,e,Option.bind_some];rw[if_pos (by omega),wrap_id (x:=x5+v) (by omega) (by omega),if_pos hc,if_pos h0,if_pos (by omega),wrap_id (x:=x6+1) (by omega) (by omega)];exact e2
   ·obtain⟨s,q2,e2,hq2,hs⟩:=hN m q hm hq
    refine⟨s,q2,?_,hq2,hs⟩;rw[ev_succ];simp only[spec_l1Rd_class.l1,ev_ite,e,Option.bind_some];rw[if_pos (by omega),wrap_id (x:=x5+v) (by omega) (by omega),if_neg hc];exact e2
theorem class_l0{b:List Int}:∀(n:Nat) (m:List Bool) (p:Int),n≤10→m.length=256→Dr b p→ClsD b (fun k=>spec_l1Rd_class.l0 k m (n:Int) b p):=by
 intro n
 induction n with
 | zero=>
   intro m p _ hm hp;obtain⟨s,e,hs⟩:=l1Class_ok m hm;refine⟨s,p,?_,hp,hs⟩;rw[ev_succ];simp only[spec_l1Rd_class.l0,ev_ite];rw[if_neg (by omega),ev_bind e];exact ev_some.2 rfl
 | succ n ih=>
   intro m p h10 hm hp;have hw:wrap64 (((n+1:Nat):Int)-1)=(n:Int):=by rw[wrap_id (by omega) (by omega)];omega
   have hN:∀(m:List Bool) (p:Int),m.length=256→Dr b p→ClsD b (fun k=>spec_l1Rd_class.l0 k m (wrap64 (((n+1:Nat):Int)-1)) b p):=fun m p h1 h2=>by rw[hw];exact ih m p (by omega) h1 h2
   obtain⟨v,q,e,v0,v1,hq⟩:=below_ok hp 256;have v1:=v1 (by omega);obtain⟨o,q2,e2,hq2⟩:=once_ok hq 2;cases o
   ·obtain⟨s,q4,e4,hq4,hs⟩:=class_l1 (x4:=((n+1:Nat):Int)) (x5:=v) ⟨v0,by omega⟩ hN _ v m q2 rfl v0 (by omega) hm hq2
    refine⟨s,q4,?_,hq4,hs⟩;rw[ev_succ];simp only[spec_l1Rd_class.l0,ev_ite,e,e2,Option.bind_some];rw[if_pos (by omega),if_neg (by decide),ev_succ];simp only[spec_l1Rd_class.j1];exact e4
   ·obtain⟨u,q3,e3,u0,u1,hq3⟩:=below_ok hq2 8
    have u1:=u1 (by omega);have hu:wrap64 (97+u)=97+u:=wrap_id (by omega) (by omega);obtain⟨s,q4,e4,hq4,hs⟩:=class_l1 (x4:=((n+1:Nat):Int)) (x5:=97+u) ⟨by omega,by omega⟩ hN _ (97+u) m q3 rfl (by omega) (by omega) hm hq3;refine⟨s,q4,?_,hq4,hs⟩;rw[ev_succ];simp only[spec_l1Rd_class.l0,ev_ite,e,e2,e3,Option.bind_some,hu];rw[if_pos (by omega),if_pos (by trivial),ev_succ];simp only[spec_l1Rd_class.j1];exact e4
theorem class_ok{b:List Int}{p:Int}(hp:Dr b p):ClsD b (fun k=>spec_l1Rd_class.f k b p):=by
 obtain⟨v,q,e,v0,v1,hq⟩:=below_ok hp 5;have v1:=v1 (by omega);obtain⟨a,rfl⟩:=Int.eq_ofNat_of_zero_le v0;obtain⟨s,q2,e2,hq2,hs⟩:=class_l0 a (List.replicate 256 false) q (by omega) List.length_replicate hq;refine⟨s,q2,?_,hq2,hs⟩;unfold spec_l1Rd_class.f;simp only[ev_ite,e,Option.bind_some];rw[if_pos (by omega)];exact e2
theorem ClassOf_ok(x:ByteArray)(hx:x.size≤9223372036854775807):∃s,Ev (fun k=>spec_ClassOf.f k x) s∧classB s=true:=by
 have key:=down x.size (fun i=>∀m:List Bool,m.length=256→∃s,Ev (fun k=>spec_ClassOf.l0 k x m (i:Nat)) s∧classB s=true) ?_ ?_ 0 (by omega) (List.replicate 256 false) List.length_replicate
 ·obtain⟨s,e,hs⟩:=key
  refine⟨s,?_,hs⟩;unfold spec_ClassOf.f;simp only[ev_ite];rw[if_pos (by omega)];exact e
 ·intro m hm
  obtain⟨s,e,hs⟩:=l1Class_ok m hm;refine⟨s,?_,hs⟩;rw[ev_succ];simp only[spec_ClassOf.l0,ev_ite];rw[if_neg (by omega),ev_bind e];exact ev_some.2 rfl
 ·intro i hi ih m hm
  have hb:=bt_range x i;obtain⟨s,e,hs⟩:=ih (m.set (bt x i).toNat true) (by simp[hm]);refine⟨s,?_,hs⟩;rw[ev_succ];simp only[spec_ClassOf.l0,ev_ite];rw[if_pos (by omega),if_pos (by omega),if_pos hb.1,if_pos (by omega),wrap_succ hi hx];exact e
theorem Both2_l0:∀i:Nat,i≤256→∀m q:List Bool,m.length=256→q.length=256→∃s,Ev (fun k=>spec_l1Both.l0 k 2 m q (i:Int)) s∧classB s=true:=by
 refine down 256 _ ?_ ?_
 ·intro m q hm hq
  obtain⟨s,e,hs⟩:=l1Class_ok m hm;refine⟨s,?_,hs⟩;rw[ev_succ];simp only[spec_l1Both.l0,ev_ite];rw[if_neg (by omega),ev_bind e];exact ev_some.2 rfl
 ·intro i hi ih m q hm hq
  have hw:wrap64 ((i:Int)+1)=((i+1:Nat):Int):=wrap_succ (m:=256) hi (by omega);cases hr:rdOf false m (i:Int)
  ·obtain⟨s,e,hs⟩:=ih (m.set (i:Int).toNat false) q (by simp[hm]) hq
   refine⟨s,?_,hs⟩;rw[ev_succ];simp only[spec_l1Both.l0,ev_ite];rw[if_pos (by omega),if_neg (by decide),if_neg (by decide),if_pos trivial,if_pos (by omega),if_pos (by omega),hr,if_neg (by decide),hw];exact e
  ·obtain⟨s,e,hs⟩:=ih (m.set (i:Int).toNat (!(rdOf false q (i:Int)))) q (by simp[hm]) hq
   refine⟨s,?_,hs⟩;rw[ev_succ];simp only[spec_l1Both.l0,ev_ite];rw[if_pos (by omega),if_neg (by decide),if_neg (by decide),if_pos trivial,if_pos (by omega),if_pos (by omega),hr,if_pos rfl,if_pos (by omega),hw];exact e
theorem Others_ok(s:List S163):∃r,Ev (fun k=>spec_Others.f k s) r∧classB r=true:=by
 unfold spec_Others.f;cases hs:classB s
 ·refine⟨[],?_,rfl⟩
  rw[ev_bind (spec_ClassOk_ev s),hs];simp only[ev_ite];rw[if_neg (by decide)];exact ev_some.2 rfl
 ·have ha:classB [(⟨0,255⟩:S163)]=true:=by decide
  obtain⟨r,e,hr⟩:=Both2_l0 0 (by omega) (flagsL (inAny [(⟨0,255⟩:S163)])) (flagsL (inAny s)) (flagsL_length _) (flagsL_length _);refine⟨r,?_,hr⟩;have hB:Ev (fun k=>spec_l1Both.f k [(⟨0,255⟩:S163)] s 2) r:=by
   unfold spec_l1Both.f;rw[ev_bind (spec_ClassOk_ev _),ha];simp only[ev_ite];rw[if_pos (by trivial),ev_bind (spec_ClassOk_ev s),hs,ev_succ];simp only[spec_l1Both.j0,Bool.not_true,Bool.false_eq_true,if_false];rw[ev_bind (spec_l1Marks_ev _ ha),ev_bind (spec_l1Marks_ev _ hs)];exact e
  have hW:Ev (fun k=>spec_Without.f k [(⟨0,255⟩:S163)] s) r:=by
   unfold spec_Without.f;rw[ev_bind hB];exact ev_some.2 rfl
  rw[ev_bind (spec_ClassOk_ev s),hs];simp only[ev_ite];rw[if_pos (by trivial),ev_bind hW];exact ev_some.2 rfl
theorem opG_ok{b:List Int}{p:Int}(hp:Dr b p)(deep:Int):∃op q,Ev (fun k=>opG k b p deep) (op,q)∧Dr b q∧1≤op∧op≤8∧(deep=0→op≤2):=by
 obtain⟨v,q1,e1,hq1,v0,v1⟩:=near_in hp 3 8 (by omega) (by omega) (by omega);unfold opG;have h1:∀q,Dr b q→∃op q',Ev (fun k=>(spec_l1Rd_once.f b q 12).bind fun t3=>some (if t3.1=true then(1:Int)else 2,t3.2)) (op,q')∧Dr b q'∧1≤op∧op≤2:=by
  intro q hq;obtain⟨o,q2,e2,hq2⟩:=once_ok hq 12;cases o
  ·exact⟨2,q2,by rw[e2];exact ev_some.2 rfl,hq2,by omega,by omega⟩
  ·exact⟨1,q2,by rw[e2];exact ev_some.2 rfl,hq2,by omega,by omega⟩
 by_cases hd:deep=0
 ·obtain⟨op,q2,e2,hq2,o1,o2⟩:=h1 q1 hq1
  refine⟨op,q2,?_,hq2,o1,by omega,fun _=>o2⟩;rw[ev_bind e1];simp only[if_pos hd];exact e2
 ·obtain⟨o,q3,e3,hq3⟩:=once_ok hq1 3
  cases o
  ·refine⟨v,q3,?_,hq3,by omega,v1,fun h=>absurd h hd⟩
   rw[ev_bind e1];simp only[if_neg hd,e3,Option.bind_some,ev_ite];exact ev_some.2 rfl
  ·obtain⟨op,q2,e2,hq2,o1,o2⟩:=h1 q3 hq3
   refine⟨op,q2,?_,hq2,o1,by omega,fun _=>o2⟩;rw[ev_bind e1];simp only[if_neg hd,e3,Option.bind_some,if_true];exact e2
theorem ev_if{α:Type}{c:Prop}[Decidable c]{a b:Nat→Option α}{r:α}(h1:c→Ev a r)(h2:¬c→Ev b r):Ev (fun k=>if c then a k else b k) r:=by
 rw[ev_ite];split
 ·exact h1 ‹_›
 ·exact h2 ‹_›
theorem strsG_size(i:Nat):(strsG.getD i ⟨#[]⟩).size≤9223372036854775807:=by
 have h:∀x∈strsG,x.size≤9223372036854775807:=by
  intro x hx;simp only[strsG,List.mem_cons,List.not_mem_nil,or_false]at hx;rcases hx with rfl|rfl|rfl|rfl|rfl|rfl|rfl|rfl|rfl<;>decide
 rw[List.getD_eq_getElem?_getD];cases hi:strsG[i]? with
 |none=>decide
 |some x=>exact h x (List.mem_of_getElem? hi)
theorem setG_ok{b:List Int}{p:Int}(hp:Dr b p):∃s q,Ev (fun k=>setG k b p) (s,q)∧Dr b q:=by
 unfold setG;obtain⟨i,q1,e1,i0,i1,hq1⟩:=below_ok hp 9;have i1:=i1 (by omega);obtain⟨s0,es0,_⟩:=ClassOf_ok (strsG.getD i.toNat ⟨#[]⟩) (strsG_size _);obtain⟨o5,q2,e2,hq2⟩:=once_ok hq1 5;have h4:∃s4 q4,Ev (fun k=>if o5=true then(spec_l1Rd_class.f k b q2).bind fun t3=>some (if 0<t3.1.length then t3.1 else s0,t3.2)else some (s0,q2)) (s4,q4)∧Dr b q4:=by
  cases o5
  ·exact⟨s0,q2,ev_some.2 rfl,hq2⟩
  ·obtain⟨s,q3,e3,hq3,_⟩:=class_ok hq2
   exact⟨if 0<s.length then s else s0,q3,(ev_bind e3).2 (ev_some.2 rfl),hq3⟩
 obtain⟨s4,q4,e4,hq4⟩:=h4;obtain⟨o6,q5,e5,hq5⟩:=once_ok hq4 16;have h6:∃s6 q6,Ev (fun k=>if o6=true then(spec_Others.f k s4).bind fun s1=>some (s1,q5)else some (s4,q5)) (s6,q6)∧Dr b q6:=by
  cases o6
  ·exact⟨s4,q5,ev_some.2 rfl,hq5⟩
  ·obtain⟨s1,e1,_⟩:=Others_ok s4
   exact⟨s1,q5,(ev_bind e1).2 (ev_some.2 rfl),hq5⟩
 obtain⟨s6,q6,e6,hq6⟩:=h6;refine⟨s6,q6,?_,hq6⟩;simp only[e1,Option.bind_some];refine ev_if (fun _=>?_) (fun h=>absurd ⟨i0,i1⟩ h);rw[ev_bind es0];simp only[e2,Option.bind_some];rw[ev_bind e4];simp only[e5,Option.bind_some];exact e6
theorem minG_ok{b:List Int}{p:Int}(hp:Dr b p)(op:Int):∃r,minG b p op=some r∧Dr b r.2.2:=by
 unfold minG;by_cases h8:op=8
 ·rw[if_pos h8]
  obtain⟨v1,q1,e1,_,_,hq1⟩:=below_ok hp 3;obtain⟨v2,q2,e2,_,_,hq2⟩:=below_ok hq1 3;rw[e1];simp only[Option.bind_some,e2];by_cases h0:wrap64 (v1+v2)=0
  ·rw[if_pos h0]
   simp only[Option.bind_some];obtain⟨v4,q4,e4,hq4⟩:=once_ok hq2 16;rw[e4];exact⟨_,rfl,hq4⟩
  ·rw[if_neg h0]
   obtain⟨v3,q3,e3,hq3⟩:=once_ok hq2 4;rw[e3];simp only[Option.bind_some];obtain⟨v4,q4,e4,hq4⟩:=once_ok hq3 16;rw[e4];exact⟨_,rfl,hq4⟩
 ·rw[if_neg h8]
  exact⟨_,rfl,hp⟩
theorem kidsN_in(op:Int)(h:1≤op∧op≤8):0≤kidsN op∧kidsN op≤2∧(op≤2→kidsN op=0):=by
 unfold kidsN;refine⟨?_,?_,fun h2=>?_⟩<;>(repeat' split)<;>omega
def ndG:Nat→Nat
 |0=>1
 |d+1=>2*ndG d+1
def NsD(b:List Int)(n:Nat)(g:Nat→Option (List S196 × Int)):Prop:=∃r q,Ev g (r,q)∧Dr b q∧r.length≤n∧∀x∈r,x.f2.length≤2
theorem NsD.le{b:List Int}{n m:Nat}{g:Nat→Option (List S196 × Int)}(h:NsD b n g)(hm:n≤m):NsD b m g:=by
 obtain⟨r,q,h1,h2,h3,h4⟩:=h;exact⟨r,q,h1,h2,by omega,h4⟩
theorem kids_ok{b:List Int}{deep op:Int}(hop:1≤op∧op≤8)(hd:0≤deep∧deep≤100)(g:Nat)(hG:kidsN op=0∨∀(ns:List S196) (p:Int),Dr b p→(∀x∈ns,x.f2.length≤2)→ns.length+g≤1000→NsD b (ns.length+g) (fun k=>growF k b p ns (deep-1))):
    ∀(n:Nat) (q:Int) (kids:List Int) (ns:List S196) (p:Int),(kidsN op-q).toNat=n→0≤q→(kids.length:Int)=q→q≤kidsN op→Dr b p→(∀x∈ns,x.f2.length≤2)→ns.length+n*g+1≤1000→NsD b (ns.length+n*g+1) (fun k=>kidsF k b p ns kids deep op q):=by
  have hk:=kidsN_in op hop;intro n
  induction n with
  | zero=>
    intro q kids ns p hn h0 hkl hle hp hns hl;obtain⟨r,er,hr⟩:=minG_ok hp op;refine⟨ns++ [⟨op,[],kids,r.1,r.2.1⟩],r.2.2,?_,hr,by simp,?_⟩
    ·rw[ev_succ]
     simp only[kidsF];refine ev_if (fun _=>?_) (fun h=>absurd ⟨by omega,by omega⟩ h);rw[ev_bind (spec_l3Kids_ev op hop)];refine ev_if (fun h=>by omega) (fun _=>?_);simp only[er,Option.bind_some];exact ev_some.2 rfl
    · intro x hx
      rcases List.mem_append.1 hx with hx|hx
      ·exact hns x hx
      · rw[List.mem_singleton.1 hx]
        show kids.length≤2
        omega
  | succ n ih=>
    intro q kids ns p hn h0 hkl hle hp hns hl;have e1:(n+1)*g=n*g+g:=Nat.succ_mul n g;rcases hG with hG|hG
    ·omega
    obtain⟨r,q1,er,hq1,hr,hr2⟩:=hG ns p hp hns (by omega);obtain⟨r2,q2,er2,hq2,hr3,hr4⟩:=ih (q+1) (kids++ [wrap64 ((r.length:Int)-1)]) r q1 (by omega) (by omega) (by simp;omega) (by omega) hq1 hr2 (by omega);refine⟨r2,q2,?_,hq2,by omega,hr4⟩;rw[ev_succ];simp only[kidsF];refine ev_if (fun _=>?_) (fun h=>absurd ⟨by omega,by omega⟩ h);rw[ev_bind (spec_l3Kids_ev op hop)];refine ev_if (fun _=>?_) (fun h=>by omega);rw[wrap_id (x:=deep-1) (by omega) (by omega),wrap_id (x:=q+1) (by omega) (by omega),ev_bind er];exact er2
theorem grow_ok{b:List Int}:∀(d:Nat),d≤50→∀(ns:List S196) (p:Int),Dr b p→(∀x∈ns,x.f2.length≤2)→ns.length+ndG d≤1000→NsD b (ns.length+ndG d) (fun k=>growF k b p ns (d:Int)):=by
  intro d
  induction d with
  | zero =>
    intro _ ns p hp hns hl;have hl:ns.length+1≤1000:=hl;obtain⟨op,q,eo,hq,o1,o8,o2⟩:=opG_ok hp (((0:Nat):Int));have o2:=o2 rfl;have hk:=kids_ok (b:=b) (deep:=((0:Nat):Int)) (op:=op) ⟨o1,o8⟩ ⟨by omega,by omega⟩ 0 (.inl ((kidsN_in op ⟨o1,o8⟩).2.2 o2)) 0 0 [] ns q (by have:=(kidsN_in op ⟨o1,o8⟩).2.2 o2;omega) (by omega) rfl (by have:=(kidsN_in op ⟨o1,o8⟩).1;omega) hq hns (by omega);obtain⟨s,q2,es,hq2⟩:=setG_ok hq;have e0:∀ {r:List S196} {q':Int},Ev (fun k=>if op=2 then(setG k b q).bind fun t2=>some (ns++ [⟨2,t2.1,[],0,0⟩],t2.2)else kidsF k b q ns [] ((0:Nat):Int) op 0) (r,q')→Ev (fun k=>growF k b p ns ((0:Nat):Int)) (r,q'):=by
     intro r q' h;rw[ev_succ];simp only[growF];refine ev_if (fun _=>?_) (fun h=>by omega);rw[ev_bind eo];exact h
    by_cases h2:op=2
    · refine⟨ns++ [⟨2,s,[],0,0⟩],q2,e0 (ev_if (fun _=>?_) (fun h=>absurd h2 h)),hq2,by simp[ndG],?_⟩
      · rw[ev_bind es]
        exact ev_some.2 rfl
      · intro x hx
        rcases List.mem_append.1 hx with hx|hx
        ·exact hns x hx
        · rw[List.mem_singleton.1 hx]
          exact Nat.zero_le _
    ·obtain⟨r,q3,er,h3,h4,h5⟩:=hk
     exact⟨r,q3,e0 (ev_if (fun h=>absurd h h2) (fun _=>er)),h3,by simpa[ndG]using h4,h5⟩
  | succ d ih=>
    intro hd ns p hp hns hl;have hnd:ndG (d+1)=2*ndG d+1:=rfl;obtain⟨op,q,eo,hq,o1,o8,_⟩:=opG_ok hp (((d+1:Nat):Int));have hkn:=kidsN_in op ⟨o1,o8⟩;have hw:((d+1:Nat):Int)-1=(d:Int):=by omega
    have hm:(kidsN op).toNat*ndG d≤2*ndG d:=Nat.mul_le_mul_right _ (by omega);have hk:=(kids_ok (b:=b) (deep:=((d+1:Nat):Int)) (op:=op) ⟨o1,o8⟩ ⟨by omega,by omega⟩ (ndG d) (.inr (fun ns p h1 h2 h3=>by rw[hw];exact ih (by omega) ns p h1 h2 h3)) (kidsN op).toNat 0 [] ns q (by omega) (by omega) rfl (by omega) hq hns (by omega)).le (m:=ns.length+ndG (d+1)) (by omega);obtain⟨s,q2,es,hq2⟩:=setG_ok hq;have e0:∀ {r:List S196} {q':Int},Ev (fun k=>if op=2 then(setG k b q).bind fun t2=>some (ns++ [⟨2,t2.1,[],0,0⟩],t2.2)else kidsF k b q ns [] ((d+1:Nat):Int) op 0) (r,q')→Ev (fun k=>growF k b p ns ((d+1:Nat):Int)) (r,q'):=by
     intro r q' h;rw[ev_succ];simp only[growF];refine ev_if (fun _=>?_) (fun h=>by omega);rw[ev_bind eo];exact h
    by_cases h2:op=2
    · refine⟨ns++ [⟨2,s,[],0,0⟩],q2,e0 (ev_if (fun _=>?_) (fun h=>absurd h2 h)),hq2,by simp;omega,?_⟩
      · rw[ev_bind es]
        exact ev_some.2 rfl
      · intro x hx
        rcases List.mem_append.1 hx with hx|hx
        ·exact hns x hx
        · rw[List.mem_singleton.1 hx]
          exact Nat.zero_le _
    ·obtain⟨r,q3,er,h3,h4,h5⟩:=hk
     exact⟨r,q3,e0 (ev_if (fun h=>absurd h h2) (fun _=>er)),h3,h4,h5⟩
theorem rx_ok{b:List Int}{p:Int}(hp:Dr b p)(deep:Int)(hd:0≤deep∧deep≤6):NsD b 127 (fun k=>spec_l1Rd_rx.f k b p deep):=by
 obtain⟨d,rfl⟩:=Int.eq_ofNat_of_zero_le hd.1;have hnd:ndG d≤127:=by
  have h:d=0∨d=1∨d=2∨d=3∨d=4∨d=5∨d=6:=by omega
  rcases h with rfl|rfl|rfl|rfl|rfl|rfl|rfl<;>decide
 obtain⟨r,q,er,hq,hr,hr2⟩:=grow_ok (b:=b) d (by omega) [] p hp (fun x hx=>by cases hx) (by simp;omega);have hr:r.length≤127:=by simp at hr;omega
 obtain⟨s,es,_⟩:=ClassOf_ok ⟨#[97]⟩ (by decide);unfold spec_l1Rd_rx.f rxF;cases hb:rxB r
 ·refine⟨[⟨2,s,[],0,0⟩],q,?_,hq,by simp,?_⟩
  ·rw[ev_bind er,ev_bind (spec_RxOk_ev r (by omega) (fun x hx=>by have:=hr2 x hx;omega)),hb]
   simp only[Bool.false_eq_true,if_false];rw[ev_bind es];exact ev_some.2 rfl
  ·intro x hx
   rw[List.mem_singleton.1 hx];exact Nat.zero_le _
 ·refine⟨r,q,?_,hq,hr,hr2⟩
  rw[ev_bind er,ev_bind (spec_RxOk_ev r (by omega) (fun x hx=>by have:=hr2 x hx;omega)),hb];simp only[if_true];exact ev_some.2 rfl
def RxsD(b:List Int)(g:Nat→Option (List S67 × Int)):Prop:=∃r q,Ev g (r,q)∧Dr b q∧∀x∈r,x.f0.length≤127∧∀y∈x.f0,y.f2.length≤2
theorem rxs_ok{b:List Int}{p:Int}(hp:Dr b p):RxsD b (fun k=>spec_l1Rd_rxs.f k b p):=by
  have hl:b.length≤1048576:=hp.2.2.2;have key:∀(n:Nat) (xs:List S67) (p:Int),n≤100→xs.length+n≤1000→Dr b p→(∀x∈xs,x.f0.length≤127∧∀y∈x.f0,y.f2.length≤2)→RxsD b (fun k=>spec_l1Rd_rxs.l0 k xs (n:Int) b p):=by
    intro n
    induction n with
    | zero=>
      intro xs p _ _ hp hx;refine⟨xs,p,?_,hp,hx⟩;rw[ev_succ];simp only[spec_l1Rd_rxs.l0,ev_ite];rw[if_neg (by omega)];exact ev_some.2 rfl
    | succ n ih=>
      intro xs p h1 h2 hp hx;obtain⟨v,q,e,v0,v1,hq⟩:=below_ok hp 3;have v1:=v1 (by omega);obtain⟨r,q2,er,hq2,hr1,hr2⟩:=rx_ok hq (1+v) ⟨by omega,by omega⟩;obtain⟨ys,q3,e3,hq3,hy⟩:=ih (xs++ [⟨r⟩]) q2 (by omega) (by simp;omega) hq2 (fun x hx2=>by
        rcases List.mem_append.1 hx2 with hx2|hx2
        ·exact hx x hx2
        ·rw[List.mem_singleton.1 hx2]
         exact⟨hr1,hr2⟩)
      refine⟨ys,q3,?_,hq3,hy⟩;rw[ev_succ];simp only[spec_l1Rd_rxs.l0,ev_ite,e,Option.bind_some];rw[if_pos (by omega),wrap_id (x:=1+v) (by omega) (by omega),ev_bind er];simp only[ev_ite];rw[if_pos (by omega),wrap_id (x:=((n+1:Nat):Int)-1) (by omega) (by omega),show((n+1:Nat):Int)-1=(n:Int) by omega];exact e3
  unfold spec_l1Rd_rxs.f;obtain⟨v,q,e,v0,v1,hq⟩:=below_ok hp (mn 4 (wrap64 (1+wrap64 ((b.length:Int) / 8))));have h4:mn 4 (wrap64 (1+wrap64 ((b.length:Int) / 8)))≤4∧1≤mn 4 (wrap64 (1+wrap64 ((b.length:Int) / 8))):=by
   rw[wrap_id (x:=(b.length:Int) / 8) (by omega) (by omega),wrap_id (by omega) (by omega)];unfold mn;split<;>omega
  have v1:=v1 h4.2;obtain⟨r,q2,e2,hr⟩:=key (1+v).toNat [] q (by omega) (by simp;omega) hq (fun x hx=>by cases hx);refine⟨r,q2,?_,hr⟩;simp only[e,Option.bind_some];rw[wrap_id (x:=1+v) (by omega) (by omega),show(1+v)=(((1+v).toNat:Nat):Int) by omega];exact e2
def InR(s:NB):Prop:=1≤s.1∧∀e∈s.2,(0≤e.f0∧e.f0<s.1)∧(0≤e.f1∧e.f1<s.1)∧classB e.f2=true
def In2(n a b:Int):Prop:=(0≤a∧a<n)∧(0≤b∧b<n)
theorem InR.grow{s:NB}(h:InR s){n:Int}(hn:s.1≤n):InR (n,s.2):=⟨by have:=h.1;show 1≤n;omega,fun e he=>by obtain⟨h1,h2,h3⟩:=h.2 e he;exact⟨⟨h1.1,by show _<n;omega⟩,⟨h2.1,by show _<n;omega⟩,h3⟩⟩
theorem InR.edge{s:NB}(h:InR s){a b:Int}(hab:In2 s.1 a b){c:List S163}(hc:classB c=true):InR (edgeN s a b c):=⟨h.1,fun e he=>by
 rcases List.mem_append.1 he with he|he
 ·exact h.2 e he
 ·obtain rfl:=List.mem_singleton.1 he
  exact⟨hab.1,hab.2,hc⟩⟩
theorem class_nil:classB ([]:List S163)=true:=rfl
def PIn(s:NB)(r:NR):Prop:=InR r.2.2∧s.1≤r.2.2.1∧In2 r.2.2.1 r.1 r.2.1
def InP(P:NB→NR):Prop:=∀s:NB,InR s→PIn s (P s)
theorem loop_in{op a z:Int}{s:NB}(h:InR s)(hz:In2 s.1 a z):PIn s (loopN op a z s):=by
 have h2:=h.grow (show s.1≤s.1+2 by omega);have h0:=h.1;obtain⟨⟨a0,a1⟩,z0,z1⟩:=hz;have e1:InR (edgeN (s.1+2,s.2) s.1 a []):=h2.edge ⟨⟨by omega,by show _<s.1+2;omega⟩,a0,by show _<s.1+2;omega⟩ class_nil;have e2:InR (if op=6 then edgeN (s.1+2,s.2) s.1 a []else edgeN (edgeN (s.1+2,s.2) s.1 a []) s.1 (s.1+1) []):=by
  split
  ·exact e1
  ·exact e1.edge ⟨⟨by omega,by show _<s.1+2;omega⟩,by omega,by show _<s.1+2;omega⟩ class_nil
 have n2:(if op=6 then edgeN (s.1+2,s.2) s.1 a []else edgeN (edgeN (s.1+2,s.2) s.1 a []) s.1 (s.1+1) []).1=s.1+2:=by split<;>rfl
 unfold loopN;generalize(if op=6 then edgeN (s.1+2,s.2) s.1 a []else edgeN (edgeN (s.1+2,s.2) s.1 a []) s.1 (s.1+1) [])=E at *;have e3:InR (if op=7 then E else edgeN E z a []):=by
  split
  ·exact e2
  ·exact e2.edge ⟨⟨by omega,by omega⟩,by omega,by omega⟩ class_nil
 have n3:(if op=7 then E else edgeN E z a []).1=s.1+2:=by split<;>exact n2
 generalize(if op=7 then E else edgeN E z a [])=F at *;exact⟨e3.edge ⟨⟨by omega,by omega⟩,by omega,by omega⟩ class_nil,by show _≤F.1;omega,⟨by show 0≤s.1;omega,by show s.1<F.1;omega⟩,by show 0≤s.1+1;omega,by show s.1+1<F.1;omega⟩
def JIn(r:NR):Prop:=InR r.2.2∧((r.1<0∧r.2.1<0)∨In2 r.2.2.1 r.1 r.2.1)
theorem join_in{r q:NR}(h:JIn r)(hq:PIn r.2.2 q):PIn r.2.2 (joinN r.1 r.2.1 q):=by
 unfold joinN;obtain⟨h1,h2⟩:=h;obtain⟨q1,q2,q3⟩:=hq;split
 ·exact⟨q1,q2,q3⟩
 ·rcases h2 with h2| ⟨h2,h3⟩
  ·omega
  ·exact⟨q1.edge ⟨⟨h3.1,by omega⟩,q3.1⟩ class_nil,q2,⟨h2.1,by show _<q.2.2.1;omega⟩,q3.2⟩
theorem timesL_in{P:NB→NR}(hP:InP P)(mn op:Int):∀(m:Nat) (i:Int) (r:NR),JIn r→JIn (timesL P mn op m i r)∧r.2.2.1≤(timesL P mn op m i r).2.2.1
  |0,_,r,h=>⟨h,Int.le_refl _⟩
  | m + 1,i,r,h=>by
    cases hf:fullN r.2.2
    · simp only[timesL,hf,Bool.false_eq_true,if_false]
      have hq:=hP r.2.2 h.1;have hq2:PIn r.2.2 (if i≥mn then loopN op (P r.2.2).1 (P r.2.2).2.1 (P r.2.2).2.2 else P r.2.2):=by
        split
        · obtain⟨l1,l2,l3⟩:=loop_in (op:=op) hq.1 hq.2.2
          exact⟨l1,by have:=hq.2.1;omega,l3⟩
        ·exact hq
      have hj:=join_in h hq2;obtain⟨t1,t2⟩:=timesL_in hP mn op m (i+1) _ ⟨hj.1, .inr hj.2.2⟩;exact⟨t1,by have:=hj.2.1;omega⟩
    · simp only[timesL,hf,if_true]
      exact⟨h,Int.le_refl _⟩
theorem timesS_in{P:NB→NR}(hP:InP P)(mn mx:Int):InP (timesS P mn mx):=by
 intro s hs;obtain⟨⟨h1,h2⟩,h3⟩:=timesL_in hP mn (loopOp mx) (manyS mn mx).toNat 0 (-1, -1,s) ⟨hs, .inl ⟨by show(-1:Int)<0;omega,by show(-1:Int)<0;omega⟩⟩;unfold timesS;generalize timesL P mn (loopOp mx) (manyS mn mx).toNat 0 (-1, -1,s)=r at *;have hn:=h1.1;refine⟨h1,h3,?_⟩;unfold In2;dsimp only;rcases h2 with h2| ⟨h2,h4⟩<;>omega
theorem partS_in{l:List S196}(hcl:∀i:Int,(rd_T196 l i).f0=1∨(rd_T196 l i).f0=2→classB (rd_T196 l i).f1=true):∀(k:Nat) (i:Int),InP (partN timesS l k i)
 |0,i,s,hs=>⟨hs,Int.le_refl _,⟨Int.le_refl _,by have:=hs.1;show 0<s.1;omega⟩,Int.le_refl _,by have:=hs.1;show 0<s.1;omega⟩
 | k + 1,i,s,hs=>by
   have ih:=partS_in hcl k;have hn:=hs.1;cases hf:fullN s;rotate_left
   · rw[full_part _ _ _ _ hf]
     exact⟨hs,Int.le_refl _,⟨Int.le_refl _,by show 0<s.1;omega⟩,Int.le_refl _,by show 0<s.1;omega⟩
   have q:=ih (rd (rd_T196 l i).f2 0) s hs;have u:=ih (rd (rd_T196 l i).f2 1) _ q.1;simp only[partN,hf,Bool.false_eq_true,if_false];split
   ·exact⟨(hs.grow (show s.1≤s.1+2 by omega)).edge ⟨⟨by omega,by show _<s.1+2;omega⟩,by omega,by show _<s.1+2;omega⟩ (hcl i (by assumption)),by show s.1≤s.1+2;omega,⟨by show 0≤s.1;omega,by show s.1<s.1+2;omega⟩,by show 0≤s.1+1;omega,by show s.1+1<s.1+2;omega⟩
   split
   · obtain⟨q1,q2,q3,q4⟩:=q
     obtain⟨u1,u2,u3,u4⟩:=u;exact⟨u1.edge ⟨⟨q4.1,by omega⟩,u3⟩ class_nil,by show s.1≤_;simp only[catN,edgeN];omega,⟨q3.1,by simp only[catN,edgeN];omega⟩,u4⟩
   split
   · generalize partN timesS l k (rd (rd_T196 l i).f2 0) s=Q at *
     generalize partN timesS l k (rd (rd_T196 l i).f2 1) Q.2.2=U at *;obtain⟨q1,q2,q3,q4⟩:=q;obtain⟨u1,u2,u3,u4⟩:=u;have b:=u1.grow (show U.2.2.1≤U.2.2.1+2 by omega);have hu:=u1.1;refine⟨(((b.edge ?_ class_nil).edge ?_ class_nil).edge ?_ class_nil).edge ?_ class_nil,?_,⟨?_,?_⟩,?_,?_⟩<;>simp only[In2,altN,edgeN]<;>omega
   split
   ·exact timesS_in (ih _) _ _ s hs
   · obtain⟨l1,l2,l3⟩:=loop_in (op:=(rd_T196 l i).f0) q.1 q.2.2
     exact⟨l1,by have:=q.2.1;omega,l3⟩
theorem nodes_class{l:List S196}(h:∀j,j<l.length→nodeAt l j=true)(i:Int)(ho:(rd_T196 l i).f0=1∨(rd_T196 l i).f0=2):classB (rd_T196 l i).f1=true:=by
 by_cases hi:i.toNat<l.length
 ·have hn:=h i.toNat hi
  have e:rd_T196 l ((i.toNat:Nat):Int)=rd_T196 l i:=rfl;unfold nodeAt at hn;rw[e]at hn;generalize rd_T196 l i=x at *;unfold nodeB at hn;simp only[Bool.and_eq_true]at hn;have h2:=hn.1.2;rcases ho with ho|ho
  ·rw[if_neg (by omega)]at h2
   have h3:=ot_ h2;rw[List.length_eq_zero_iff.1 h3];rfl
  ·rw[if_pos ho]at h2
   exact(Bool.and_eq_true_iff.1 h2).1
 ·have e:rd_T196 l i=z196:=by
    unfold rd_T196;rw[List.getD_eq_getElem?_getD,List.getElem?_eq_none (by omega)];rfl
  rw[e]at ho;rcases ho with ho|ho<;>exact absurd ho (by decide)
def InE(q:NE):Prop:=InR q.1∧∀(j:Nat) (e:S138),q.2[j]? =some e→e.f1=(j:Int)∧0≤e.f0∧e.f0<q.1.1
theorem upS_in(l:List S67)(hx:∀x∈l,rxN x):∀k,k≤l.length→InE (upN timesS l k)
  |0,_=>⟨⟨by show(1:Int)≤1;omega,fun e he=>by cases he⟩,fun j e he=>by simp[upN]at he⟩
  | k + 1,h=>by
    obtain⟨h1,h2⟩:=upS_in l hx k (by omega);have hm:rd_T67 l (k:Int)∈l:=by
      unfold rd_T67;rw[List.getD_eq_getElem?_getD,List.getElem?_eq_getElem (show(k:Int).toNat<l.length by omega)];exact List.getElem_mem _
    have hp:=partS_in (nodes_class (hx _ hm).2.2) (rd_T67 l (k:Int)).f0.length (((rd_T67 l (k:Int)).f0.length:Int)-1) _ h1;have he:=upN_ends timesS l k;show InE (addN timesS _ _ _)
    unfold addN;generalize hX:xN timesS (rd_T67 l (k:Int)) (upN timesS l k).1=X at *;have hp:PIn (upN timesS l k).1 X:=by rw[←hX];exact hp
    generalize upN timesS l k=q at *;obtain⟨p1,p2,p3,p4⟩:=hp;refine⟨p1.edge ⟨⟨Int.le_refl _,by have:=p1.1;omega⟩,p3⟩ class_nil,fun j e hj=>?_⟩;show _∧_∧e.f0<X.2.2.1
    rw[List.getElem?_append]at hj;split at hj
    · obtain⟨a1,a2,a3⟩:=h2 j e hj
      exact⟨a1,a2,by omega⟩
    · rename_i hlt
      have:j-q.2.length=0:=by
        by_cases h0:j-q.2.length=0
        ·exact h0
        · rw[List.getElem?_eq_none (by simp;omega)]at hj
          cases hj
      rw[this]at hj;obtain rfl:=Option.some.inj hj;exact⟨by show(k:Int)=j;omega,p4.1,p4.2⟩
theorem full_add(tm:TM)(x:S67)(i:Int){q:NE}(h:fullN q.1=true):fullN (addN tm x i q).1=true:=by
 unfold addN xN;rw[full_part _ _ _ _ h];exact full_edge h _ _ _
theorem up_ag(l:List S67)(hx:∀x∈l,rxN x):∀k,k≤l.length→upN timesI l k=upN timesS l k∨(fullN (upN timesI l k).1=true∧fullN (upN timesS l k).1=true)
  |0,_=> .inl rfl
  | k + 1,h=>by
    have hm:rd_T67 l (k:Int)∈l:=by
      unfold rd_T67;rw[List.getD_eq_getElem?_getD,List.getElem?_eq_getElem (show(k:Int).toNat<l.length by omega)];exact List.getElem_mem _
    have hb:=(upNS_bn l hx k (by omega)).1;obtain⟨x1,x2,x3⟩:=hx _ hm;show addN timesI _ _ _=addN timesS _ _ _∨(fullN (addN timesI _ _ _).1=true∧fullN (addN timesS _ _ _).1=true)
    rcases up_ag l hx k (by omega)with h1| ⟨h1,h2⟩
    · rw[h1]
      generalize upN timesS l k=q at *;generalize rd_T67 l (k:Int)=x at *;have ha:=part_ag x.f0 x3 x.f0.length (x.f0.length-1) q.1 (by omega) hb;rw[show((x.f0.length-1:Nat):Int)=(x.f0.length:Int)-1 by omega]at ha;unfold addN xN;rcases ha with ha| ⟨a1,a2⟩
      · rw[ha]
        exact .inl rfl
      ·exact .inr ⟨full_edge a1 _ _ _,full_edge a2 _ _ _⟩
    ·exact .inr ⟨full_add _ _ _ h1,full_add _ _ _ h2⟩
theorem spec_NfaOk_ev(n:Int)(es:List S116)(en:List S138)(hI:InE ((n,es),en))(hn:n≤1000000)(hel:es.length≤1000000)(hen:en.length≤40):Ev (fun k=>spec_NfaOk.f k n es en) (!fullB n es):=by
 obtain⟨⟨h1,h2⟩,h3⟩:=hI;dsimp only at h1 h2 h3;have hw:wrap64 (n-1)=n-1:=wrap_id (by omega) (by omega);have hj:Ev (fun k=>spec_NfaOk.j0 k true n es en) false:=by
  rw[ev_succ];simp only[spec_NfaOk.j0,if_true];exact ev_some.2 rfl
 have hl1:Ev (fun k=>spec_NfaOk.l1 k 0 n es en) true:=by
  refine ev_loop en.length (fun k i=>spec_NfaOk.l1 k (i:Nat) n es en) (fun _=>true) ?_ ?_ 0 (by omega)
  ·rw[ev_succ]
   simp[spec_NfaOk.l1,ev_some]
  ·intro i hi ih
   rw[ev_succ];obtain⟨a1,a2,a3⟩:=h3 i en[i] (List.getElem?_eq_getElem hi);have hr:rd_T138 en (i:Int)=en[i]:=by simp[rd_T138,hi]
   simp only[spec_NfaOk.l1,spec_l1In_eq,Option.bind_some,ev_ite,hr,hw];rw[if_pos (by omega),if_pos (by omega),if_pos a1,decide_eq_true (by omega),if_pos rfl,wrap_succ hi (by omega)];exact ih
 have hl0:Ev (fun k=>spec_NfaOk.l0 k 0 n es en) true:=by
  refine ev_loop es.length (fun k i=>spec_NfaOk.l0 k (i:Nat) n es en) (fun _=>true) ?_ ?_ 0 (by omega)
  ·rw[ev_succ]
   simp only[spec_NfaOk.l0,ev_ite];rw[if_neg (by omega)];exact hl1
  ·intro i hi ih
   rw[ev_succ];obtain⟨a1,a2,a3⟩:=h2 es[i] (List.getElem_mem _);have hr:rd_T116 es (i:Int)=es[i]:=by simp[rd_T116,hi]
   simp only[spec_NfaOk.l0,spec_l1In_eq,Option.bind_some,ev_ite,hr,hw];rw[if_pos (by omega),if_pos (by omega),decide_eq_true (by omega),if_pos rfl,decide_eq_true (by omega),if_pos rfl,ev_bind (spec_ClassOk_ev es[i].f2),a3];simp only[ev_ite,if_true];rw[wrap_succ hi (by omega)];exact ih
 have hj0:Ev (fun k=>spec_NfaOk.j0 k false n es en) true:=by
  rw[ev_succ];simp only[spec_NfaOk.j0,Bool.false_eq_true,if_false];exact hl0
 unfold spec_NfaOk.f fullB;simp only[spec_l1In_eq,Option.bind_some,ev_ite];by_cases c1:n≤3000
 ·rw[decide_eq_true (show 1≤n∧n≤3000 by omega),if_pos rfl,decide_eq_false (show ¬n>3000 by omega)]
  by_cases c2:(es.length:Int)>12000
  ·rw[if_pos c2,decide_eq_true c2]
   exact hj
  ·rw[if_neg c2,decide_eq_false c2,decide_eq_false (show ¬(en.length:Int)>40 by omega)]
   exact hj0
 ·rw[decide_eq_false (show ¬(1≤n∧n≤3000) by omega),if_neg (by decide),decide_eq_true (show n>3000 by omega)]
  exact hj
theorem rxs_parts{l:List S67}(h:okRxs l=true):l.length≤40∧∀x∈l,rxN x:=by
 obtain⟨h1,h2⟩:=Bool.and_eq_true_iff.1 h;have:=ot_ h1;exact⟨by omega,fun x hx=>by obtain⟨a,b,c⟩:=rxB_parts (List.all_eq_true.1 h2 x hx);exact⟨a,by omega,c⟩⟩
theorem spec_BuildNfa_ev(l:List S67)(hl:∀x∈l,x.f0.length≤1048576)(hk:∀x∈l,∀y∈x.f0,y.f2.length≤9223372036854775807):Ev (fun k=>spec_BuildNfa.g k l) (nfaA l):=by
 have hrx:∀m:List S67,(∀x∈m,x∈l)→∃K,∀k,K≤k→∀x∈m,spec_RxOk.f k x.f0=some (rxB x.f0):=by
  intro m
  induction m with
  |nil=>exact fun _=>⟨0,fun _ _ x hx=>by cases hx⟩
  | cons a m ih=>
    intro h;obtain⟨K1,h1⟩:=ih (fun x hx=>h x (List.mem_cons_of_mem _ hx));obtain⟨K2,h2⟩:=spec_RxOk_ev a.f0 (hl a (h a (List.mem_cons_self ..))) (hk a (h a (List.mem_cons_self ..)));refine⟨max K1 K2,fun k hkk x hx=>?_⟩;rcases List.mem_cons.1 hx with rfl|hx
    ·exact h2 k (by omega)
    ·exact h1 k (by omega) x hx
 obtain⟨K,hK⟩:=hrx l (fun _ h=>h);unfold nfaA;cases hb:okRxs l
 ·rw[if_neg (by decide)]
  refine⟨K,fun k hkk=>?_⟩;show spec_BuildNfa.g k l=_
  unfold spec_BuildNfa.g;rw[if_pos (hK k hkk),hb,if_neg (by decide)]
 ·rw[if_pos rfl]
  obtain⟨p1,p2⟩:=rxs_parts hb;have hi:=upS_in l p2 l.length (Nat.le_refl _);have hbn:=upNS_bn l p2 l.length (Nat.le_refl _);have hen:=upN_ends timesS l l.length;have ha:=up_ag l p2 l.length (Nat.le_refl _);have hbn2:=hbn.2.1;have hbn3:=hbn.2.2;obtain⟨K2,h2⟩:=spec_NfaOk_ev (upN timesS l l.length).1.1 (upN timesS l l.length).1.2 (upN timesS l l.length).2 hi (by omega) (by omega) (by omega);refine⟨max K K2,fun k hkk=>?_⟩;show spec_BuildNfa.g k l=_
  unfold spec_BuildNfa.g;have h3:spec_NfaOk.f k (upN timesS l l.length).1.1 (upN timesS l l.length).1.2 (upN timesS l l.length).2=some _:=h2 k (by omega);rw[if_pos (hK k (by omega)),hb,if_pos rfl,h3];show some _=some _
  congr 1;have ef:fullN (upN timesS l l.length).1=fullB (upN timesS l l.length).1.1 (upN timesS l l.length).1.2:=rfl;rw[←ef];unfold nfaP;rcases ha with ha| ⟨a1,a2⟩
  ·rw[ha]
   cases fullN (upN timesS l l.length).1<;>rfl
  ·rw[a1,a2]
   rfl
def addS(seen:List Int)(v:Int):List Int:=if v∈seen then seen else seen++ [v]
def seenR:List Int→List Int→List Int
 |seen,[]=>seen
 |seen,v :: l=>seenR (addS seen v) l
def outR:List Int→List Int→List Int
 | _,[]=>[]
 |seen,v :: l=>(seen.idxOf v:Int) :: outR (addS seen v) l
theorem addS_mem(seen:List Int)(v:Int):v∈addS seen v:=by
 unfold addS;split
 ·assumption
 ·simp
theorem addS_idx{seen:List Int}{u:Int}(v:Int)(h:u∈seen):(addS seen v).idxOf u=seen.idxOf u:=by
 unfold addS;split
 ·rfl
 ·rw[List.idxOf_append,if_pos h]
theorem addS_sub{seen:List Int}{u:Int}(v:Int)(h:u∈seen):u∈addS seen v:=by
 unfold addS;split
 ·exact h
 ·exact List.mem_append_left _ h
theorem seenR_sub{u:Int}:∀(l seen:List Int),u∈seen→u∈seenR seen l
 | [],_,h=>h
 |v :: l,seen,h=>seenR_sub l _ (addS_sub v h)
theorem seenR_idx{u:Int}:∀(l seen:List Int),u∈seen→(seenR seen l).idxOf u=seen.idxOf u
 | [],_,_=>rfl
 |v :: l,seen,h=>(seenR_idx l _ (addS_sub v h)).trans (addS_idx v h)
theorem seenR_mem{u:Int}:∀(l seen:List Int),u∈l→u∈seenR seen l
 | v :: l,seen,h=>by
   rcases List.mem_cons.1 h with rfl|h
   ·exact seenR_sub l _ (addS_mem _ _)
   ·exact seenR_mem l _ h
theorem idx_addS(seen:List Int)(v:Int):(addS seen v).idxOf v=seen.idxOf v:=by
 unfold addS;split
 ·rfl
 ·rename_i h
  rw[List.idxOf_append,if_neg h,List.idxOf_eq_length h];simp
theorem outR_eq:∀(l seen:List Int),outR seen l=l.map fun v=>((seenR seen l).idxOf v:Int)
 | [],_=>rfl
 | v :: l,seen=>by
   simp only[outR,seenR,List.map_cons];rw[outR_eq l,seenR_idx l _ (addS_mem _ _),idx_addS]
theorem outR_length(l seen:List Int):(outR seen l).length=l.length:=by rw[outR_eq];simp
theorem outR_blk:∀(l seen:List Int),blk (outR seen l) (seen.length:Int)=some ((seenR seen l).length:Int)
  | [],_=>rfl
  | v :: l,seen=>by
    have h1:seen.idxOf v≤seen.length:=List.idxOf_le_length;simp only[outR,seenR,blk];rw[if_pos (by omega)];have h2:max (seen.length:Int) ((seen.idxOf v:Int)+1)=((addS seen v).length:Int):=by
      unfold addS;by_cases h:v∈seen
      · have:=List.idxOf_lt_length_of_mem h
        rw[if_pos h];omega
      · rw[if_neg h,List.idxOf_eq_length h]
        simp;omega
    rw[h2];exact outR_blk l _
theorem idx_inj{F:List Int}{u v:Int}(hu:u∈F)(h:F.idxOf u=F.idxOf v):u=v:=by
 have h1:=List.idxOf_lt_length_of_mem hu;have h2:F.idxOf v<F.length:=by omega
 have e1:=List.getElem_idxOf h1;have e2:=List.getElem_idxOf h2;rw[←e1,←e2];simp only[h]
theorem outR_same{l:List Int}{i j:Nat}(hi:i<l.length)(hj:j<l.length):rd (outR [] l) (i:Int)=rd (outR [] l) (j:Int)↔rd l (i:Int)=rd l (j:Int):=by
 have e:∀i,i<l.length→rd (outR [] l) (i:Int)=((seenR [] l).idxOf (rd l (i:Int)):Int):=by
  intro i h;rw[outR_eq];unfold rd;rw[Int.toNat_natCast,List.getD_eq_getElem?_getD,List.getD_eq_getElem?_getD,List.getElem?_map,List.getElem?_eq_getElem h];rfl
 rw[e i hi,e j hj];constructor
 ·intro h
  refine idx_inj (F:=seenR [] l) (seenR_mem l [] ?_) (by omega);unfold rd;rw[Int.toNat_natCast,List.getD_eq_getElem?_getD,List.getElem?_eq_getElem hi];exact List.getElem_mem _
 ·intro h
  rw[h]
theorem seenR_length:∀(l seen:List Int),(seenR seen l).length≤seen.length+l.length
 | [],_=>by simp[seenR]
 | v :: l,seen=>by
   have h:=seenR_length l (addS seen v);have h2:(addS seen v).length≤seen.length+1:=by
     unfold addS;split<;>simp
   simp only[seenR,List.length_cons];omega
theorem rd_get(l:List Int)(i:Nat)(h:i<l.length):rd l (i:Int)=l[i]:=by
 unfold rd;rw[Int.toNat_natCast,List.getD_eq_getElem?_getD,List.getElem?_eq_getElem h];rfl
theorem Renamed_l1(l seen out:List Int)(i:Nat)(hi:i<l.length)(hl:l.length≤1000000)(hs:seen.length≤1000000)(ho:out.length≤1000000)(r:List Int × Int)
    (hn:Ev (fun k=>spec_l1Renamed.l0 k l (addS seen (rd l (i:Int))) (out++ [(seen.idxOf (rd l (i:Int)):Int)]) ((i+1:Nat):Int)) r):
    Ev (fun k=>spec_l1Renamed.l1 k l seen out (i:Int) (-1) 0) r:=by
  have hw:wrap64 ((i:Int)+1)=((i+1:Nat):Int):=wrap_succ hi (by omega)
  -- behind the place
  have done:∀j:Nat,seen.idxOf (rd l (i:Int))=j→j<seen.length→∀m:Nat,Ev (fun k=>spec_l1Renamed.l1 k l seen out (i:Int) (j:Int) (m:Int)) r:=by
   intro j hj hlt m;have hm:rd l (i:Int)∈seen:=List.idxOf_lt_length_iff.1 (by omega);have h2:Ev (fun k=>spec_l1Renamed.j2 k l seen out (i:Int) (j:Int) (m:Int) false) r:=by
    rw[ev_succ];simp only[spec_l1Renamed.j2,ev_ite];rw[if_neg (by decide),if_neg (by omega),if_pos (by omega),hw];unfold addS at hn;rw[if_pos hm,hj]at hn;exact hn
   rw[ev_succ];simp only[spec_l1Renamed.l1,ev_ite,decide_eq_false (show ¬((j:Int)<0) by omega)];split
   ·exact h2
   ·exact h2
  refine down seen.length (fun m=>m≤seen.idxOf (rd l (i:Int))→Ev (fun k=>spec_l1Renamed.l1 k l seen out (i:Int) (-1) (m:Int)) r) ?_ ?_ 0 (by omega) (by omega)
  ·intro hm
   have hnm:rd l (i:Int) ∉ seen:=fun h=>by have:=List.idxOf_lt_length_of_mem h;omega
   rw[ev_succ];simp only[spec_l1Renamed.l1,ev_ite];rw[if_neg (by omega),ev_succ];simp only[spec_l1Renamed.j2,ev_ite];rw[if_neg (by decide),if_pos (by omega),if_pos (by omega),if_pos (by omega),if_pos (by omega),if_pos (by omega),hw];unfold addS at hn;rw[if_neg hnm,List.idxOf_eq_length hnm]at hn;exact hn
  · intro m hm ih hle
    rw[ev_succ];simp only[spec_l1Renamed.l1,ev_ite];rw[if_pos (by omega),decide_eq_true (by omega),ev_succ];simp only[spec_l1Renamed.j2,ev_ite];rw[if_pos (by trivial),if_pos (by omega),if_pos (by omega),if_pos (by omega),if_pos (by omega),wrap_succ hm (by omega)];by_cases e:rd seen (m:Int)=rd l (i:Int)
    · rw [if_pos e]
      rw [rd_get seen m hm]at e;have hx:seen.idxOf (rd l (i:Int))=m:=by
        have h1:seen.idxOf (rd l (i:Int))≤m:=by
          rcases Nat.lt_or_ge m (seen.idxOf (rd l (i:Int)))with h|h
          ·exact absurd e (List.not_of_lt_findIdx (p:=fun x=>x==rd l (i:Int)) h |> fun q=>by simpa using q)
          ·exact h
        omega
      have:=done m hx hm (m+1);exact this
    · rw[if_neg e]
      refine ih ?_;rcases Nat.lt_or_eq_of_le hle with h|h
      ·exact h
      · refine absurd ?_ e
        rw[h];have h1:seen.idxOf (rd l (i:Int))<seen.length:=by omega
        rw[rd_get _ _ h1];exact List.getElem_idxOf h1
theorem Renamed_ok(l:List Int)(hl:l.length≤1000):Ev (fun k=>spec_l1Renamed.f k l) (outR [] l,((seenR [] l).length:Int)):=by
 unfold spec_l1Renamed.f;have key:=down l.length (fun i=>∀seen out:List Int,seen.length≤i→out.length=i→Ev (fun k=>spec_l1Renamed.l0 k l seen out (i:Nat)) (out++outR seen (l.drop i),((seenR seen (l.drop i)).length:Int))) ?_ ?_ 0 (by omega) [] [] (by simp) (by simp)
 ·simpa using key
 ·intro seen out _ _
  rw[ev_succ];simp only[spec_l1Renamed.l0,ev_ite];rw[if_neg (by omega),List.drop_length];refine ev_some.2 ?_;simp[outR,seenR]
 ·intro i hi ih seen out h1 h2
  have hs:(addS seen (rd l (i:Int))).length≤i+1:=by
   unfold addS;split
   ·omega
   ·simp;omega
  have hx:=ih (addS seen (rd l (i:Int))) (out++ [(seen.idxOf (rd l (i:Int)):Int)]) hs (by simp;omega);have hd:l.drop i=rd l (i:Int) :: l.drop (i+1):=by rw[List.drop_eq_getElem_cons hi,rd_get l i hi]
  rw[ev_succ,hd];simp only[spec_l1Renamed.l0,ev_ite,outR,seenR];rw[if_pos (by omega)];refine Renamed_l1 l seen out i hi (by omega) (by omega) (by omega) _ ?_;simpa using hx
def partR(c:List S163)(l:List Int):List Int:=(List.range 256).map fun b:Nat=>2*rd l (b:Int)+(if inAny c b then 1 else 0)
def blockStep(l:List Int)(c:List S163):List Int:=outR [] (partR c l)
def blockL(cs:List (List S163))(l:List Int):List Int:=cs.foldl blockStep l
def blocksR(cs:List (List S163)):List Int × Int:=
 if cs.length≤500∧cs.all classB=true then(outR [] (blockL cs (List.replicate 256 0)),((seenR [] (blockL cs (List.replicate 256 0))).length:Int))else([],0)
theorem partR_length(c:List S163)(l:List Int):(partR c l).length=256:=by simp[partR]
theorem partR_rd(c:List S163)(l:List Int)(b:Nat)(hb:b<256):rd (partR c l) (b:Int)=2*rd l (b:Int)+(if inAny c b then 1 else 0):=by
 rw[rd_get _ _ (by rw[partR_length];exact hb)];simp[partR]
def Sm(l:List Int):Prop:=l.length=256∧∀b:Nat,b<256→0≤rd l (b:Int)∧rd l (b:Int)≤256
theorem outR_small(l:List Int)(h:l.length=256):Sm (outR [] l):=by
 refine⟨by rw[outR_length,h],fun b hb=>?_⟩;have h1:=outR_blk l [];have h2:=blk_all _ _ _ (by simp) h1 (rd (outR [] l) (b:Int)) (rd_mem (by omega) (by rw[outR_length];omega));have h3:=seenR_length l [];simp at h3;omega
theorem zeros_small:Sm (List.replicate 256 0):=by
 refine⟨List.length_replicate,fun b hb=>?_⟩;rw[rd_get _ _ (by rw[List.length_replicate];exact hb),List.getElem_replicate];omega
theorem Blocks_l1(cs:List (List S163))(c:List S163)(l x4:List Int)(i:Nat)(hi:i<cs.length)(hc:cs.length≤1000)(hl:Sm l)(r:List Int × Int)
    (hn:Ev (fun k=>spec_Blocks.l0 k cs x4 (blockStep l c) ((i+1:Nat):Int)) r):
    Ev (fun k=>spec_Blocks.l1 k cs x4 l (i:Int) (flagsL (inAny c)) 0) r:=by
  have key:=down 256 (fun b=>Ev (fun k=>spec_Blocks.l1 k cs x4 (marked (fun b:Nat=>2*rd l (b:Int)+(if inAny c b then 1 else 0)) l b) (i:Int) (flagsL (inAny c)) (b:Nat)) r) ?_ ?_ 0 (by omega)
  ·simpa[marked]using key
  ·have hm:marked (fun b:Nat=>2*rd l (b:Int)+(if inAny c b then 1 else 0)) l 256=partR c l:=by
     unfold marked partR;rw[List.drop_eq_nil_of_le (by rw[hl.1];exact Nat.le_refl _),List.append_nil]
   rw[ev_succ,hm];simp only[spec_Blocks.l1,ev_ite];rw[if_neg (by omega),ev_bind (Renamed_ok _ (by rw[partR_length];omega)),wrap_succ hi (by omega)];exact hn
  · intro b hb ih
    have hlen:=marked_length (fun b:Nat=>2*rd l (b:Int)+(if inAny c b then 1 else 0)) l b (by rw[hl.1];omega);have hset:=marked_set (fun b:Nat=>2*rd l (b:Int)+(if inAny c b then 1 else 0)) l b (by rw[hl.1];omega);have hrd:rd (marked (fun b:Nat=>2*rd l (b:Int)+(if inAny c b then 1 else 0)) l b) (b:Int)=rd l (b:Int):=by
     rw[rd_get _ _ (by rw[hlen,hl.1];exact hb),rd_get _ _ (by rw[hl.1];exact hb)];unfold marked;rw[List.getElem_append_right (by simp)];simp
    have hs:=hl.2 b hb;rw[ev_succ];simp only[spec_Blocks.l1,ev_ite,Option.bind_some];rw[if_pos (by omega),if_pos (by omega),hlen,hl.1,if_pos (by omega),flagsL_length,if_pos (by omega),flagsL_rd _ b hb,hrd,wrap_id (x:=2*rd l (b:Int)) (by omega) (by omega),wrap_succ (m:=256) hb (by omega),Int.toNat_natCast];rw[←hset]at ih;generalize marked (fun b:Nat=>2*rd l (b:Int)+(if inAny c b then 1 else 0)) l b=m at *;cases hf:inAny c b
    ·rw[if_neg (by decide)]
     rw[hf]at ih;simpa using ih
    · rw[if_pos rfl]
      have e:rd (m.set b (2*rd l (b:Int))) (b:Int)=2*rd l (b:Int):=by
        rw[rd_get _ _ (by rw[List.length_set,hlen,hl.1];exact hb)];simp
      rw[e,wrap_id (x:=2*rd l (b:Int)+1) (by omega) (by omega),List.set_set];rw[hf]at ih;simpa using ih
theorem Blocks_l0(cs:List (List S163))(hc:cs.length≤500):∀i,i≤cs.length→∀l,Sm l→
    Ev (fun k=>spec_Blocks.l0 k cs [] l (i:Int)) (if(cs.drop i).all classB=true then(outR [] (blockL (cs.drop i) l),((seenR [] (blockL (cs.drop i) l)).length:Int))else([],0)):=by
  refine down cs.length _ ?_ ?_
  ·intro l hl
   rw[ev_succ,List.drop_length];simp only[spec_Blocks.l0,ev_ite];rw[if_neg (by omega),if_pos (by rfl),ev_bind (Renamed_ok l (by rw[hl.1];omega))];exact ev_some.2 rfl
  · intro i hi ih l hl
    have hd:cs.drop i=rd_L7 cs (i:Int) :: cs.drop (i+1):=by
     rw[drop_cons cs [] i hi];simp[rd_L7]
    rw[ev_succ,hd];simp only[spec_Blocks.l0,ev_ite];rw[if_pos (by omega),if_pos (by omega),ev_bind (spec_ClassOk_ev _),ev_ite];by_cases hb:classB (rd_L7 cs (i:Int))=true;rotate_left
    ·rw[if_neg hb]
     refine ev_some.2 (if_neg ?_).symm;rw[List.all_cons,Bool.eq_false_iff.2 hb];simp
    · rw[if_pos hb,ev_bind (spec_l1Marks_ev _ hb)]
      refine ev_congr (Blocks_l1 cs _ l [] i hi (by omega) hl _ (ih _ (outR_small _ (partR_length _ _)))) ?_;by_cases ha:(cs.drop (i+1)).all classB=true
      · rw[if_pos ha,if_pos (by rw[List.all_cons,hb,ha];rfl)]
        rfl
      ·rw[if_neg ha,if_neg (by rw[List.all_cons,hb,Bool.true_and];exact ha)]
theorem Blocks_ok(cs:List (List S163)):Ev (fun k=>spec_Blocks.f k cs) (blocksR cs):=by
 unfold spec_Blocks.f blocksR;simp only[Option.bind_some,ev_ite];by_cases hc:cs.length≤500
 ·rw[if_neg (by omega),if_pos (by omega)]
  have h:=Blocks_l0 cs hc 0 (by omega) _ zeros_small;rw[List.drop_zero]at h;by_cases ha:cs.all classB=true
  ·rw[if_pos ⟨hc,ha⟩]
   rw[if_pos ha]at h;exact h
  ·rw[if_neg (fun h=>ha h.2)]
   rw[if_neg ha]at h;exact h
 ·rw[if_pos (by omega),if_neg (fun h=>hc h.1)]
  exact ev_some.2 rfl
theorem blockL_small:∀(cs:List (List S163)) (l:List Int),Sm l→Sm (blockL cs l)
 | [],_,h=>h
 |c :: cs,l,h=>blockL_small cs (blockStep l c) (outR_small _ (partR_length _ _))
theorem blockL_same:∀(cs:List (List S163)) (l:List Int),Sm l→∀i j:Nat,i<256→j<256→(rd (blockL cs l) (i:Int)=rd (blockL cs l) (j:Int)↔rd l (i:Int)=rd l (j:Int)∧∀c∈cs,inAny c i=inAny c j)
 | [],l,_,i,j,_,_=>by simp[blockL]
 | c :: cs,l,h,i,j,hi,hj=>by
   have h1:=blockL_same cs (blockStep l c) (outR_small _ (partR_length _ _)) i j hi hj;have h2:rd (blockStep l c) (i:Int)=rd (blockStep l c) (j:Int)↔rd l (i:Int)=rd l (j:Int)∧inAny c i=inAny c j:=by
     unfold blockStep;rw[outR_same (by rw[partR_length];exact hi) (by rw[partR_length];exact hj),partR_rd c l i hi,partR_rd c l j hj];cases inAny c i<;>cases inAny c j<;>simp<;>omega
   show rd (blockL cs (blockStep l c)) (i:Int)=rd (blockL cs (blockStep l c)) (j:Int)↔_
   rw[h1,h2];simp only[List.mem_cons,forall_eq_or_imp];constructor
   ·rintro⟨⟨a,b⟩,c⟩;exact⟨a,b,c⟩
   ·rintro⟨a,b,c⟩;exact⟨⟨a,b⟩,c⟩
structure BlkR (cs:List (List S163)) (block:List Int) (n:Int):Prop where
 len:block.length=256
 blk:blk block 0=some n
 pos:1≤n∧n≤256
 same:∀i j:Nat,i<256→j<256→(rd block (i:Int)=rd block (j:Int)↔∀c∈cs,inAny c i=inAny c j)
theorem blocksR_true{cs:List (List S163)}(h1:cs.length≤500)(h2:cs.all classB=true):BlkR cs (blocksR cs).1 (blocksR cs).2:=by
 unfold blocksR;rw[if_pos ⟨h1,h2⟩];have hs:=blockL_small cs _ zeros_small;have hz:∀i j:Nat,i<256→j<256→rd (List.replicate 256 (0:Int)) (i:Int)=rd (List.replicate 256 (0:Int)) (j:Int):=fun i j hi hj=>by
  rw[rd_get _ _ (by rw[List.length_replicate];exact hi),rd_get _ _ (by rw[List.length_replicate];exact hj),List.getElem_replicate,List.getElem_replicate]
 have hsm:=blockL_same cs _ zeros_small;generalize List.replicate 256 (0:Int)=Z at *;generalize blockL cs Z=L at *;have hb:blk (outR [] L) 0=some ((seenR [] L).length:Int):=outR_blk L [];have hl:(outR [] L).length=256:=by rw[outR_length,hs.1]
 refine⟨hl,hb,⟨?_,?_⟩,fun i j hi hj=>?_⟩
 ·have:=blk_all _ _ _ (by omega) hb (rd (outR [] L) ((0:Nat):Int)) (rd_mem (by omega) (by rw[hl];decide))
  dsimp only;omega
 ·have:=blk_le _ _ _ (by omega) hb
  rw[hl]at this;dsimp only;omega
 ·dsimp only
  rw[outR_same (by rw[hs.1];exact hi) (by rw[hs.1];exact hj),hsm i j hi hj];exact⟨fun h=>h.2,fun h=>⟨hz i j hi hj,h⟩⟩
structure NfaR (n:Int) (es:List S116) (en:List S138):Prop where
 size:1≤n∧n≤3000
 few:es.length≤12000∧en.length≤40
 edge:∀e∈es,(0≤e.f0∧e.f0<n)∧(0≤e.f1∧e.f1<n)∧classB e.f2=true
 ends:∀(j:Nat) (e:S138),en[j]? =some e→e.f1=(j:Int)∧0≤e.f0∧e.f0<n
def edgeB(n:Int)(e:S116):Bool:=decide (0≤e.f0∧e.f0≤n-1)&&(decide (0≤e.f1∧e.f1≤n-1)&&classB e.f2)
def endsB(n:Int):Nat→List S138→Bool
 | _,[]=>true
 |i,e :: r=>decide (e.f1=(i:Int))&&(decide (0≤e.f0∧e.f0≤n-1)&&endsB n (i+1) r)
def nfaB(n:Int)(es:List S116)(en:List S138):Bool:=decide (1≤n∧n≤3000)&&(decide (es.length≤12000)&&(decide (en.length≤40)&&(es.all (edgeB n)&&endsB n 0 en)))
theorem NfaOk_ok(n:Int)(es:List S116)(en:List S138):Ev (fun k=>spec_NfaOk.f k n es en) (nfaB n es en):=by
  have hj:Ev (fun k=>spec_NfaOk.j0 k true n es en) false:=by
   rw[ev_succ];simp only[spec_NfaOk.j0,if_true];exact ev_some.2 rfl
  unfold spec_NfaOk.f nfaB;simp only[spec_l1In_eq,Option.bind_some,ev_ite];by_cases c1:1≤n∧n≤3000;rotate_left
  ·rw[decide_eq_false c1,if_neg (by decide),Bool.false_and]
   exact hj
  rw[decide_eq_true c1,if_pos rfl,Bool.true_and];have hw:wrap64 (n-1)=n-1:=wrap_id (by omega) (by omega);by_cases c2:es.length≤12000;rotate_left
  ·rw[decide_eq_false c2,if_pos (by omega),Bool.false_and]
   exact hj
  rw[decide_eq_true c2,if_neg (by omega),Bool.true_and];by_cases c3:en.length≤40;rotate_left
  ·rw[decide_eq_false c3,decide_eq_true (by omega),Bool.false_and]
   exact hj
  rw [decide_eq_true c3,decide_eq_false (by omega),Bool.true_and,ev_succ];simp only[spec_NfaOk.j0,Bool.false_eq_true,if_false];have hl1:Ev (fun k=>spec_NfaOk.l1 k 0 n es en) (endsB n 0 en):=by
    refine ev_loop en.length (fun k i=>spec_NfaOk.l1 k (i:Nat) n es en) (fun i=>endsB n i (en.drop i)) ?_ ?_ 0 (by omega)
    ·rw[ev_succ,List.drop_length]
     simp[spec_NfaOk.l1,ev_some,endsB]
    · intro i hi ih
      have hr:rd_T138 en (i:Int)=en[i]:=by simp[rd_T138,hi]
      rw[ev_succ,List.drop_eq_getElem_cons hi];simp only[spec_NfaOk.l1,spec_l1In_eq,Option.bind_some,ev_ite,hr,hw,endsB];rw[if_pos (by omega),if_pos (by omega),wrap_succ hi (by omega)];by_cases a1:en[i].f1=(i:Int)
      · rw[if_pos a1,decide_eq_true a1,Bool.true_and]
        by_cases a2:0≤en[i].f0∧en[i].f0≤n-1
        ·rw[decide_eq_true a2,if_pos rfl,Bool.true_and]
         exact ih
        ·rw[decide_eq_false a2,if_neg (by decide),Bool.false_and]
         exact ev_some.2 rfl
      · rw[if_neg a1,decide_eq_false a1,Bool.false_and]
        exact ev_some.2 rfl
  refine ev_loop es.length (fun k i=>spec_NfaOk.l0 k (i:Nat) n es en) (fun i=>(es.drop i).all (edgeB n)&&endsB n 0 en) ?_ ?_ 0 (by omega)
  ·rw[ev_succ,List.drop_length]
   simp only[spec_NfaOk.l0,ev_ite];rw[if_neg (by omega)];exact hl1
  · intro i hi ih
    have hr:rd_T116 es (i:Int)=es[i]:=by simp[rd_T116,hi]
    rw[ev_succ,List.drop_eq_getElem_cons hi];simp only[spec_NfaOk.l0,spec_l1In_eq,Option.bind_some,ev_ite,hr,hw,List.all_cons,edgeB];rw[if_pos (by omega),if_pos (by omega),wrap_succ hi (by omega)];by_cases a1:0≤es[i].f0∧es[i].f0≤n-1
    · rw [decide_eq_true a1,if_pos rfl,Bool.true_and]
      by_cases a2:0≤es[i].f1∧es[i].f1≤n-1
      · rw[decide_eq_true a2,if_pos rfl,Bool.true_and,ev_bind (spec_ClassOk_ev _),ev_ite]
        cases classB es[i].f2
        · rw[if_neg (by decide),Bool.false_and]
          exact ev_some.2 rfl
        · rw[if_pos rfl,Bool.true_and]
          exact ih
      · rw[decide_eq_false a2,if_neg (by decide),Bool.false_and]
        exact ev_some.2 rfl
    ·rw[decide_eq_false a1,if_neg (by decide),Bool.false_and]
     exact ev_some.2 rfl
inductive Eps (es:List S116) (P:Int→Prop):Int→Prop
 |base {q:Int}:P q→Eps es P q
 |step {e:S116}:e∈es→e.f2= []→Eps es P e.f0→Eps es P e.f1
theorem Eps.imp{es:List S116}{P P':Int→Prop}(h:∀q,P q→P' q){q:Int}(hq:Eps es P q):Eps es P' q:=by
 induction hq with
 |base hq=>exact .base (h _ hq)
 |step he h0 _ ih=>exact .step he h0 ih
def Mk(m:List Bool)(q:Int):Prop:=0≤q∧rdOf false m q=true
theorem Mk.lt{m:List Bool}{q:Int}(h:Mk m q):q<m.length:=by
 rcases Int.lt_or_le q m.length with h1|h1
 ·exact h1
 ·have:=h.2
  unfold rdOf at this;rw[List.getD_eq_getElem?_getD,List.getElem?_eq_none (by omega)]at this;simp at this
theorem mk_set(m:List Bool)(v q:Int)(hv:0≤v)(hl:v<m.length):Mk (m.set v.toNat true) q↔(q=v∨Mk m q):=by
  unfold Mk rdOf;simp only[List.getD_eq_getElem?_getD,List.getElem?_set];constructor
  ·rintro⟨h0,h⟩
   by_cases e:q=v
   ·exact .inl e
   ·rw[if_neg (by omega)]at h
    exact .inr ⟨h0,h⟩
  · rintro(rfl| ⟨h0,h⟩)
    ·refine⟨hv,?_⟩
     rw[if_pos rfl,if_pos (by omega)];rfl
    · refine⟨h0,?_⟩
      by_cases e:q=v
      · subst e
        rw[if_pos rfl,if_pos (by omega)];rfl
      · rw[if_neg (by omega)]
        exact h
structure Cl (n:Int) (es:List S116) (on m:List Bool) (xs:List Int):Prop where
 len:(m.length:Int)=n
 mark:∀q,Mk m q↔q∈xs
 cnt:xs.length+m.count false=m.length
 eps:∀q∈xs,Eps es (Mk on) q
 sub:∀q,Mk on q→q∈xs
theorem Cl.push{n:Int}{es:List S116}{on m:List Bool}{xs:List Int}(h:Cl n es on m xs){v:Int}(h0:0≤v)(h1:v<n)(hf:rdOf false m v=false)(he:Eps es (Mk on) v):Cl n es on (m.set v.toNat true) (xs++ [v]):=by
 have hl:=h.len;refine⟨by rw[List.length_set];exact hl,fun q=>?_,?_,fun q hq=>?_,fun q hq=>List.mem_append_left _ (h.sub q hq)⟩
 ·rw[mk_set m v q h0 (by omega),h.mark q,List.mem_append,List.mem_singleton]
  exact Or.comm
 ·have hlt:v.toNat<m.length:=by omega
  have hg:m[v.toNat]=false:=by
   unfold rdOf at hf;rw[List.getD_eq_getElem?_getD,List.getElem?_eq_getElem hlt]at hf;exact hf
  rw[List.count_set hlt,hg,List.length_append,List.length_set];have hc:=h.cnt;have hp:0<m.count false:=List.count_pos_iff.2 (by rw[←hg];exact List.getElem_mem _);simp;omega
 ·rcases List.mem_append.1 hq with hq|hq
  ·exact h.eps q hq
  ·rw[List.mem_singleton.1 hq]
   exact he
def Shut_(es:List S116)(xs:List Int)(x:Int):Prop:=∀e∈es,e.f2= []→e.f0=x→e.f1∈xs
def GoodC(n:Int)(es:List S116)(on:List Bool)(g:Nat→Option (List Bool)):Prop:=∃out,Ev g out∧(out.length:Int)=n∧∀q,Mk out q↔Eps es (Mk on) q
theorem rdE_mem{es:List S116}{i:Nat}(h:i<es.length):rd_T116 es (i:Int)=es[i]:=by simp[rd_T116,h]
theorem rd_app(xs:List Int)(v:Int)(j:Nat)(h:j<xs.length):rd (xs++ [v]) (j:Int)=rd xs (j:Int):=by
 rw[rd_get _ _ (by simp;omega),rd_get _ _ h,List.getElem_append_left h]
theorem close_l1{n:Int}{es:List S116}{en:List S138}{on:List Bool}(hR:NfaR n es en):∀(d j:Nat) (m:List Bool) (xs:List Int),n.toNat-j=d→Cl n es on m xs→(∀j':Nat,j'<j→j'<xs.length∧Shut_ es xs (rd xs (j':Int)))→GoodC n es on (fun k=>spec_l6Close.l1 k m xs (j:Int) n es en):=by
  intro d
  induction d with
  | zero=>
    intro j m xs hd hC hS;have hl:=hC.len;have hc:=hC.cnt;refine⟨m,?_,hl,fun q=>⟨fun hq=>hC.eps q ((hC.mark q).1 hq),fun hq=>?_⟩⟩
    ·rw[ev_succ]
     simp only[spec_l6Close.l1,ev_ite];rw[if_neg (by omega)];exact ev_some.2 rfl
    · rw[hC.mark]
      induction hq with
      |base hq=>exact hC.sub _ hq
      | step he h0 _ ih=>
        obtain⟨j',hj',hx⟩:=List.mem_iff_getElem.1 ih;exact(hS j' (by omega)).2 _ he h0 (by rw[rd_get _ _ hj',hx])
  | succ d ihd =>
    intro j m xs hd hC hS;by_cases hj:j<xs.length;rotate_left
    · have hl:=hC.len
      refine⟨m,?_,hl,fun q=>⟨fun hq=>hC.eps q ((hC.mark q).1 hq),fun hq=>?_⟩⟩
      · rw[ev_succ]
        simp only[spec_l6Close.l1,ev_ite];rw[if_neg (by omega)];exact ev_some.2 rfl
      · rw[hC.mark]
        induction hq with
        |base hq=>exact hC.sub _ hq
        | step he h0 _ ih=>
          obtain⟨j',hj',hx⟩:=List.mem_iff_getElem.1 ih;exact(hS j' (by omega)).2 _ he h0 (by rw[rd_get _ _ hj',hx])
    have hl2 : ∀i:Nat,i≤es.length→∀(m:List Bool) (xs:List Int),j<xs.length→Cl n es on m xs→(∀j':Nat,j'<j→j'<xs.length∧Shut_ es xs (rd xs (j':Int)))→Shut_ (es.take i) xs (rd xs (j:Int))→GoodC n es on (fun k=>spec_l6Close.l2 k m xs (j:Int) (i:Int) n es en):=by
      refine down es.length _ ?_ ?_
      · intro m xs hj hC hS hX
        rw[List.take_length]at hX;obtain⟨out,e,h⟩:=ihd (j+1) m xs (by omega) hC (fun j' hj'=>by
          rcases Nat.lt_or_eq_of_le (Nat.lt_succ_iff.1 hj')with h|rfl
          ·exact hS j' h
          ·exact⟨hj,hX⟩)
        refine⟨out,?_,h⟩;have hc:=hC.cnt;have hl:=hC.len;have hn:=hR.size;rw[ev_succ];simp only[spec_l6Close.l2,ev_ite];rw[if_neg (by omega),wrap_succ (m:=4000) (by omega) (by omega)];exact e
      · intro i hi ih m xs hj hC hS hX
        have hc:=hC.cnt;have hl:=hC.len;have hn:=hR.size;have hf:=hR.few;obtain⟨hr0,hr1,_⟩:=hR.edge es[i] (List.getElem_mem hi);have htake:es.take (i+1)=es.take i++ [es[i]]:=List.take_succ_eq_append_getElem hi;have skip:(es[i].f2= []→es[i].f0=rd xs (j:Int)→es[i].f1∈xs)→GoodC n es on (fun k=>spec_l6Close.l2 k m xs (j:Int) ((i+1:Nat):Int) n es en):=by
          intro hx;refine ih m xs hj hC hS (fun e he h0 h1=>?_);rw[htake]at he;rcases List.mem_append.1 he with he|he
          ·exact hX e he h0 h1
          · rw[List.mem_singleton.1 he]at h0 h1 ⊢
            exact hx h0 h1
        have pre:∀out,Ev (fun k=>if es[i].f0=rd xs (j:Int)then(if(es[i].f2.length:Int)=0 then(if rdOf false m es[i].f1=true then spec_l6Close.l2 k m xs (j:Int) ((i+1:Nat):Int) n es en else spec_l6Close.l2 k (m.set es[i].f1.toNat true) (xs++ [es[i].f1]) (j:Int) ((i+1:Nat):Int) n es en)else spec_l6Close.l2 k m xs (j:Int) ((i+1:Nat):Int) n es en)else spec_l6Close.l2 k m xs (j:Int) ((i+1:Nat):Int) n es en) out→Ev (fun k=>spec_l6Close.l2 k m xs (j:Int) (i:Int) n es en) out:=by
          intro out h;rw[ev_succ];simp only[spec_l6Close.l2,ev_ite,rdE_mem hi]at h ⊢;rw[if_pos (by omega),if_pos (by omega),if_pos (by omega),if_pos (by omega),wrap_succ hi (by omega)];by_cases a1:es[i].f0=rd xs (j:Int)
          · rw [if_pos a1]at h ⊢
            by_cases a2:(es[i].f2.length:Int)=0
            · rw[if_pos a2]at h ⊢
              rw[if_pos hr1.1,if_pos (by omega)];by_cases a3:rdOf false m es[i].f1=true
              · rw[if_pos a3]at h ⊢
                exact h
              · rw[if_neg a3]at h ⊢
                rw[if_pos (by omega)];exact h
            · rw[if_neg a2]at h ⊢
              exact h
          · rw[if_neg a1]at h ⊢
            exact h
        by_cases c1:es[i].f0=rd xs (j:Int);rotate_left
        · obtain⟨out,e,h⟩:=skip (fun _ h=>absurd h c1)
          exact⟨out,pre out (by simp only[ev_ite];rw[if_neg c1];exact e),h⟩
        by_cases c2:es[i].f2= [];rotate_left
        · obtain⟨out,e,h⟩:=skip (fun h _=>absurd h c2)
          refine⟨out,pre out ?_,h⟩;simp only[ev_ite];rw[if_pos c1,if_neg (fun h=>c2 (List.eq_nil_of_length_eq_zero (by omega)))];exact e
        cases c3:rdOf false m es[i].f1
        · have hx:rd xs (j:Int)∈xs:=by rw[rd_get _ _ hj];exact List.getElem_mem _
          have hC2:=hC.push hr1.1 hr1.2 c3 (.step (List.getElem_mem hi) c2 (by rw[c1];exact hC.eps _ hx));obtain⟨out,e,h⟩:=ih (m.set es[i].f1.toNat true) (xs++ [es[i].f1]) (by simp;omega) hC2 (fun j' hj'=>by
            obtain⟨a,b⟩:=hS j' hj';refine⟨by simp;omega,?_⟩;rw[rd_app _ _ _ a];exact fun e he h0 h1=>List.mem_append_left _ (b e he h0 h1)) (by
            rw[rd_app _ _ _ hj];intro e he h0 h1;rw[htake]at he;rcases List.mem_append.1 he with he|he
            ·exact List.mem_append_left _ (hX e he h0 h1)
            · rw[List.mem_singleton.1 he]
              exact List.mem_append_right _ (List.mem_singleton_self _))
          refine⟨out,pre out ?_,h⟩;simp only[ev_ite,c3];rw[if_pos c1,if_pos (by rw[c2];rfl),if_neg (by decide)];exact e
        · obtain⟨out,e,h⟩:=skip (fun _ _=>(hC.mark _).1 ⟨hr1.1,c3⟩)
          refine⟨out,pre out ?_,h⟩;simp only[ev_ite,c3];rw[if_pos c1,if_pos (by rw[c2];rfl),if_pos (by trivial)];exact e
    obtain⟨out,e,h⟩:=hl2 0 (by omega) m xs hj hC hS (fun e he=>by simp at he);refine⟨out,?_,h⟩;rw[ev_succ];simp only[spec_l6Close.l1,ev_ite];rw[if_pos (by omega)];exact e
theorem close_ok{n:Int}{es:List S116}{en:List S138}{on:List Bool}(hR:NfaR n es en)(hon:(on.length:Int)=n):GoodC n es on (fun k=>spec_l6Close.f k n es en on):=by
  have hn:=hR.size;have key:=down n.toNat (fun i=>∀xs:List Int,(∀q,q∈xs↔(Mk on q∧q<(i:Int)))→xs.length+(on.take i).count false=i→GoodC n es on (fun k=>spec_l6Close.l0 k on xs (i:Nat) n es en)) ?_ ?_ 0 (by omega) [] (fun q=>by simp[Mk];omega) (by simp)
  ·obtain⟨out,e,h⟩:=key
   refine⟨out,?_,h⟩;unfold spec_l6Close.f;simp only[Option.bind_some,ev_ite,List.nil_append];rw[if_pos (by simp;omega)];exact e
  ·intro xs hx hc
   rw[List.take_of_length_le (by omega)]at hc;obtain⟨out,e,h⟩:=close_l1 hR _ 0 on xs rfl ⟨hon,fun q=>by rw[hx q];exact⟨fun h=>⟨h,by have:=h.lt;omega⟩,fun h=>h.1⟩,by omega,fun q hq=> .base ((hx q).1 hq).1,fun q hq=>(hx q).2 ⟨hq,by have:=hq.lt;omega⟩⟩ (fun j' hj'=>by omega);refine⟨out,?_,h⟩;rw[ev_succ];simp only[spec_l6Close.l0,ev_ite];rw[if_neg (by omega)];exact e
  · intro i hi ih xs hx hc
    have hil:i<on.length:=by omega
    have hg:rdOf false on (i:Int)=on[i]:=by
     unfold rdOf;rw[Int.toNat_natCast,List.getD_eq_getElem?_getD,List.getElem?_eq_getElem hil];rfl
    have htk:on.take (i+1)=on.take i++ [on[i]]:=List.take_succ_eq_append_getElem hil;cases c:rdOf false on (i:Int)
    · obtain⟨out,e,h⟩:=ih xs (fun q=>by
        rw[hx q];refine⟨fun h=>⟨h.1,by have:=h.2;omega⟩,fun h=>⟨h.1,?_⟩⟩;have h2:=h.2;rcases Int.lt_or_eq_of_le (show q≤(i:Int) by omega)with h3|h3
        ·exact h3
        · have:=h.1.2
          rw[h3,c]at this;cases this) (by rw[htk,List.count_append,←hg,c];simp;omega)
      refine⟨out,?_,h⟩;rw[ev_succ];simp only[spec_l6Close.l0,ev_ite,c];rw[if_pos (by omega),if_pos (by omega),if_pos (by omega),if_neg (by decide),wrap_succ hi (by omega)];exact e
    · obtain⟨out,e,h⟩:=ih (xs++ [(i:Int)]) (fun q=>by
        rw[List.mem_append,List.mem_singleton,hx q];constructor
        · rintro(h|rfl)
          ·exact⟨h.1,by have:=h.2;omega⟩
          ·exact⟨⟨by omega,c⟩,by omega⟩
        · intro h
          have h2:=h.2;rcases Int.lt_or_eq_of_le (show q≤(i:Int) by omega)with h3|h3
          ·exact .inl ⟨h.1,h3⟩
          ·exact .inr h3) (by rw[htk,List.count_append,←hg,c];simp;omega)
      refine⟨out,?_,h⟩;rw[ev_succ];simp only[spec_l6Close.l0,ev_ite,c];rw[if_pos (by omega),if_pos (by omega),if_pos (by omega),if_pos (by trivial),if_pos (by omega),wrap_succ hi (by omega)];exact e
def ByB(es:List S116)(on:List Bool)(b:Int)(q:Int):Prop:=∃e∈es,Mk on e.f0∧e.f1=q∧inAny e.f2 b.toNat=true
def GoodS(n:Int)(es:List S116)(on:List Bool)(b:Int)(g:Nat→Option (List Bool)):Prop:=∃out,Ev g out∧(out.length:Int)=n∧∀q,Mk out q↔Eps es (ByB es on b) q
theorem step_ok{n:Int}{es:List S116}{en:List S138}{on:List Bool}(hR:NfaR n es en)(hon:(on.length:Int)=n)(b:Int)(hb:0≤b∧b≤255):GoodS n es on b (fun k=>spec_l6Step.f k n es en on b):=by
  have hn:=hR.size;have hf:=hR.few;have key:=down es.length (fun i=>∀m:List Bool,(m.length:Int)=n→(∀q,Mk m q↔ByB (es.take i) on b q)→GoodS n es on b (fun k=>spec_l6Step.l0 k on b m (i:Nat) n es en)) ?_ ?_ 0 (by omega) (List.replicate n.toNat false) (by rw[List.length_replicate];omega) (fun q=>by
   constructor
   ·intro h
    have h1:=h.2;have h2:=h.lt;rw[List.length_replicate]at h2;unfold rdOf at h1;rw[List.getD_eq_getElem?_getD,List.getElem?_replicate]at h1;split at h1<;>simp at h1
   ·rintro⟨e,he,_⟩
    simp at he)
  ·obtain⟨out,e,h⟩:=key
   refine⟨out,?_,h⟩;unfold spec_l6Step.f;simp only[ev_ite];rw[if_pos (by omega),if_pos (by omega)];exact e
  ·intro m hm hq
   rw[List.take_length]at hq;obtain⟨out,e,h1,h2⟩:=close_ok hR hm;refine⟨out,?_,h1,fun q=>(h2 q).trans ⟨fun h=>h.imp (fun q hq2=>(hq q).1 hq2),fun h=>h.imp (fun q hq2=>(hq q).2 hq2)⟩⟩;rw[ev_succ];simp only[spec_l6Step.l0,ev_ite];rw[if_neg (by omega),ev_bind e];exact ev_some.2 rfl
  · intro i hi ih m hm hq
    obtain⟨hr0,hr1,hcl⟩:=hR.edge es[i] (List.getElem_mem hi);have hfew:=classB_few hcl;have htake:es.take (i+1)=es.take i++ [es[i]]:=List.take_succ_eq_append_getElem hi;have hby:∀q,ByB (es.take (i+1)) on b q↔ByB (es.take i) on b q∨(Mk on es[i].f0∧es[i].f1=q∧inAny es[i].f2 b.toNat=true):=by
      intro q;rw[htake];constructor
      · rintro⟨e,he,h⟩
        rcases List.mem_append.1 he with he|he
        ·exact .inl ⟨e,he,h⟩
        · rw[List.mem_singleton.1 he]at h
          exact .inr h
      · rintro(⟨e,he,h⟩|h)
        ·exact⟨e,List.mem_append_left _ he,h⟩
        ·exact⟨es[i],List.mem_append_right _ (List.mem_singleton_self _),h⟩
    have pre:∀out,Ev (fun k=>if rdOf false on es[i].f0=true then spec_l6Step.l1 k on b m (i:Int) 0 n es en es[i].f0 es[i].f1 es[i].f2 else spec_l6Step.l0 k on b m ((i+1:Nat):Int) n es en) out→Ev (fun k=>spec_l6Step.l0 k on b m (i:Int) n es en) out:=by
     intro out h;rw[ev_succ];simp only[spec_l6Step.l0,ev_ite,rdE_mem hi]at h ⊢;rw[if_pos (by omega),if_pos (by omega),if_pos hr0.1,if_pos (by omega),wrap_succ hi (by omega)];exact h
    cases c:rdOf false on es[i].f0
    · obtain⟨out,e,h⟩:=ih m hm (fun q=>by
        rw[hq q,hby q];exact⟨.inl,fun h=>h.elim id (fun h=>by have:=h.1.2;rw[c]at this;cases this)⟩)
      refine⟨out,pre out ?_,h⟩;simp only[ev_ite,c];rw[if_neg (by decide)];exact e
    · -- the spans of the edge
      have hin:=down es[i].f2.length (fun s=>∀m:List Bool,(m.length:Int)=n→(∀q,Mk m q↔ByB (es.take i) on b q∨(es[i].f1=q∧inAny (es[i].f2.take s) b.toNat=true))→GoodS n es on b (fun k=>spec_l6Step.l1 k on b m (i:Int) (s:Nat) n es en es[i].f0 es[i].f1 es[i].f2)) ?_ ?_ 0 (by omega) m hm (fun q=>by
        rw[hq q];exact⟨.inl,fun h=>h.elim id (fun h=>by have:=h.2;simp[inAny]at this)⟩)
      · obtain⟨out,e,h⟩:=hin
        refine⟨out,pre out ?_,h⟩;simp only[ev_ite,c];rw[if_pos (by trivial)];exact e
      · intro m hm hq2
        rw[List.take_length]at hq2;obtain⟨out,e,h⟩:=ih m hm (fun q=>by
          rw[hq2 q,hby q];exact⟨fun h=>h.imp id (fun h=>⟨⟨hr0.1,c⟩,h.1,h.2⟩),fun h=>h.imp id (fun h=>⟨h.2.1,h.2.2⟩)⟩)
        refine⟨out,?_,h⟩;rw[ev_succ];simp only[spec_l6Step.l1,ev_ite];rw[if_neg (by omega),wrap_succ hi (by omega)];exact e
      · intro s hs ihs m hm hq2
        have hsp:=inAny_take es[i].f2 s hs b.toNat;have hwb:wrap64 b=b:=wrap_id (by omega) (by omega);by_cases d:(rd_T163 es[i].f2 (s:Int)).f0≤b∧b≤(rd_T163 es[i].f2 (s:Int)).f1
        · have hd2:decide ((rd_T163 es[i].f2 (s:Int)).f0≤(b.toNat:Int)∧(b.toNat:Int)≤(rd_T163 es[i].f2 (s:Int)).f1)=true:=decide_eq_true (by omega)
          rw [hd2,Bool.or_true]at hsp;obtain⟨out,e,h⟩:=ihs (m.set es[i].f1.toNat true) (by rw[List.length_set];exact hm) (fun q=>by
            rw[mk_set m es[i].f1 q hr1.1 (by omega),hq2 q,hsp];constructor
            · rintro(rfl|h|h)
              ·exact .inr ⟨rfl,rfl⟩
              ·exact .inl h
              ·exact .inr ⟨h.1,rfl⟩
            · rintro(h|h)
              ·exact .inr (.inl h)
              ·exact .inl h.1.symm)
          refine⟨out,?_,h⟩;rw[ev_succ];simp only[spec_l6Step.l1,ev_ite,spec_l1In_eq,Option.bind_some,hwb];rw[if_pos (by omega),if_pos (by omega),decide_eq_true d,if_pos (by trivial),if_pos hr1.1,if_pos (by omega),wrap_succ hs (by omega)];exact e
        · have hd2:decide ((rd_T163 es[i].f2 (s:Int)).f0≤(b.toNat:Int)∧(b.toNat:Int)≤(rd_T163 es[i].f2 (s:Int)).f1)=false:=decide_eq_false (by omega)
          rw[hd2,Bool.or_false]at hsp;obtain⟨out,e,h⟩:=ihs m hm (fun q=>by rw[hq2 q,hsp]);refine⟨out,?_,h⟩;rw[ev_succ];simp only[spec_l6Step.l1,ev_ite,spec_l1In_eq,Option.bind_some,hwb];rw[if_pos (by omega),if_pos (by omega),decide_eq_false d,if_neg (by decide),wrap_succ hs (by omega)];exact e
def accR(m:List Bool):List S138→Int
 | []=> -1
 |e :: r=>if rdOf false m e.f0=true then e.f1 else accR m r
theorem accR_in{m:List Bool}:∀(l:List S138),(∀e∈l,0≤e.f1∧e.f1≤39)→ -1≤accR m l∧accR m l≤39
 | [],_=>by simp[accR]
 | e :: r,h=>by
   unfold accR;split
   · have:=h e (List.mem_cons_self ..)
     omega
   ·exact accR_in r (fun e he=>h e (List.mem_cons_of_mem _ he))
theorem accept_ok{n:Int}{es:List S116}{en:List S138}{m:List Bool}(hR:NfaR n es en)(hm:(m.length:Int)=n):Ev (fun k=>spec_l7Accept.f k n es en m) (accR m en):=by
 have hf:=hR.few;unfold spec_l7Accept.f;refine ev_loop en.length (fun k i=>spec_l7Accept.l0 k m (i:Nat) n es en) (fun i=>accR m (en.drop i)) ?_ ?_ 0 (by omega)
 ·rw[ev_succ,List.drop_length]
  simp[spec_l7Accept.l0,ev_some,accR]
 ·intro i hi ih
  have hr:rd_T138 en (i:Int)=en[i]:=by simp[rd_T138,hi]
  obtain⟨_,h0,h1⟩:=hR.ends i en[i] (List.getElem?_eq_getElem hi);rw[ev_succ,List.drop_eq_getElem_cons hi];simp only[spec_l7Accept.l0,ev_ite,hr,accR];rw[if_pos (by omega),if_pos (by omega),if_pos h0,if_pos (by omega),wrap_succ hi (by omega)];split
  ·exact ev_some.2 rfl
  ·exact ih
theorem same_ok(a b:List Bool)(hl:a.length=b.length)(hs:a.length≤1000000):Ev (fun k=>spec_l7SameMarks.f k a b) (decide (a=b)):=by
 unfold spec_l7SameMarks.f;have key:=ev_loop a.length (fun k i=>spec_l7SameMarks.l0 k a b (i:Nat)) (fun i=>decide (a.drop i=b.drop i)) ?_ ?_ 0 (by omega)
 ·simpa using key
 ·rw[ev_succ]
  simp only[spec_l7SameMarks.l0,ev_ite];rw[if_neg (by omega),List.drop_length,List.drop_eq_nil_of_le (by omega)];exact ev_some.2 rfl
 ·intro i hi ih
  have hi2:i<b.length:=by omega
  have h1:rdOf false a (i:Int)=a[i]:=by
   unfold rdOf;rw[Int.toNat_natCast,List.getD_eq_getElem?_getD,List.getElem?_eq_getElem hi];rfl
  have h2:rdOf false b (i:Int)=b[i]:=by
   unfold rdOf;rw[Int.toNat_natCast,List.getD_eq_getElem?_getD,List.getElem?_eq_getElem hi2];rfl
  rw[ev_succ,List.drop_eq_getElem_cons hi,List.drop_eq_getElem_cons hi2];simp only[spec_l7SameMarks.l0,ev_ite,h1,h2];rw[if_pos (by omega),if_pos (by omega),if_pos (by omega),wrap_succ hi (by omega)];by_cases e:a[i]=b[i]
  ·rw[if_neg (by simp[e])]
   refine ev_congr ih ?_;exact decide_eq_decide.2 ⟨fun h=>by rw[e,h],fun h=>(List.cons.inj h).2⟩
  ·rw[if_pos (by simp[e])]
   refine ev_some.2 ?_;exact(decide_eq_false (fun h=>e (List.cons.inj h).1)).symm
def setsR(es:List S116):List (List S163):=(es.map fun e=>e.f2).filter fun s=>decide (0<s.length)
theorem blk_onto:∀(l:List Int) (n m:Int),blk l n=some m→∀x,n≤x→x<m→x∈l
  | [],n,m,h,x,h0,h1=>by simp[blk]at h;omega
  | y :: l,n,m,h,x,h0,h1=>by
    unfold blk at h;split at h
    · by_cases e:x=y
      · subst e
        exact List.mem_cons_self ..
      · refine List.mem_cons_of_mem _ (blk_onto l _ m h x ?_ h1)
        omega
    ·simp at h
def addL(S:List (List Bool))(m:List Bool):List (List Bool):=if m∈S then S else S++ [m]
def dR(s:List (List Bool))(i:Int):List Bool:=s.getD i.toNat []
theorem dR_get(S:List (List Bool))(i:Nat)(h:i<S.length):dR S (i:Int)=S[i]:=by
 unfold dR;rw[Int.toNat_natCast,List.getD_eq_getElem?_getD,List.getElem?_eq_getElem h];rfl
theorem dR_mem{S:List (List Bool)}{i:Int}(h0:0≤i)(h:i<S.length):dR S i∈S:=by
 obtain⟨a,rfl⟩:=Int.eq_ofNat_of_zero_le h0;rw[dR_get S a (by omega)];exact List.getElem_mem _
theorem addL_keep(S:List (List Bool))(m:List Bool)(i:Int)(h0:0≤i)(h:i<S.length):dR (addL S m) i=dR S i:=by
 obtain⟨a,rfl⟩:=Int.eq_ofNat_of_zero_le h0;unfold addL;split
 ·rfl
 ·rw[dR_get _ _ (by simp;omega),dR_get _ _ (by omega),List.getElem_append_left (by omega)]
theorem addL_le(S:List (List Bool))(m:List Bool):S.length≤(addL S m).length∧(addL S m).length≤S.length+1:=by
 unfold addL;split
 ·omega
 ·simp
theorem addL_at(S:List (List Bool))(m:List Bool):S.idxOf m<(addL S m).length∧dR (addL S m) (S.idxOf m:Int)=m:=by
 unfold addL;split
 ·rename_i h
  have h1:=List.idxOf_lt_length_of_mem h;exact⟨h1,by rw[dR_get _ _ h1,List.getElem_idxOf h1]⟩
 ·rename_i h
  rw[List.idxOf_eq_length h];refine⟨by simp,?_⟩;rw[dR_get _ _ (by simp),List.getElem_append_right (by omega)];simp
theorem addL_nodup{S:List (List Bool)}(m:List Bool)(h:S.Nodup):(addL S m).Nodup:=by
 unfold addL;split
 ·exact h
 ·rename_i hm
  rw[List.nodup_append];refine⟨h,by simp,fun a ha b hb=>?_⟩;rw[List.mem_singleton.1 hb];intro e;exact hm (e ▸ ha)
theorem addL_mem{S:List (List Bool)}{m x:List Bool}(h:x∈addL S m):x∈S∨x=m:=by
 unfold addL at h;split at h
 ·exact .inl h
 ·rcases List.mem_append.1 h with h|h
  ·exact .inl h
  ·exact .inr (List.mem_singleton.1 h)
def failD:List Int × List (List Int) × List Int × Bool:=([],[],[],false)
theorem find_ok{n:Int}{es:List S116}{en:List S138}(most count:Int)(bs:List Int)(S:List (List Bool))(s:Int)(row:List Int)(k0:Nat)(t:List Bool)(block:List Int)(rows:List (List Int))(acc:List Int)
    (hS:∀m∈S,m.length=t.length)(hsl:S.length≤100000)(htl:t.length≤100000)(hrl:row.length≤100000)(hk0:k0≤100000)(r:List Int × List (List Int) × List Int × Bool)
    (h:if most<((addL S t).length:Int)then r=failD else Ev (fun k=>spec_BuildDfa.l3 k most count bs (addL S t) s (row++ [(S.idxOf t:Int)]) ((k0+1:Nat):Int) n es en block rows acc) r):
    Ev (fun k=>spec_BuildDfa.l4 k most count bs S s row (k0:Int) t (-1) 0 n es en block rows acc) r:=by
  have hw:wrap64 ((k0:Int)+1)=((k0+1:Nat):Int):=by rw[wrap_id (by omega) (by omega)];omega
  have done:∀j:Nat,S.idxOf t=j→j<S.length→∀m:Nat,Ev (fun k=>spec_BuildDfa.l4 k most count bs S s row (k0:Int) t (j:Int) (m:Int) n es en block rows acc) r:=by
    intro j hj hlt m;have hm:t∈S:=List.idxOf_lt_length_iff.1 (by omega);have h2:Ev (fun k=>spec_BuildDfa.j6 k most count bs S s row (k0:Int) t (j:Int) (m:Int) false n es en block rows acc) r:=by
      rw[ev_succ];simp only[spec_BuildDfa.j6,ev_ite];rw[if_neg (by decide),if_neg (by omega),hw];unfold addL at h;rw[if_pos hm,hj]at h;by_cases hb:(S.length:Int)>most
      · rw[if_pos hb]at h ⊢
        exact ev_some.2 h.symm
      · rw[if_neg hb]at h ⊢
        rw[if_pos (by omega)];exact h
    rw[ev_succ];simp only[spec_BuildDfa.l4,ev_ite,decide_eq_false (show ¬((j:Int)<0) by omega)];split
    ·exact h2
    ·exact h2
  refine down S.length (fun m=>m≤S.idxOf t→Ev (fun k=>spec_BuildDfa.l4 k most count bs S s row (k0:Int) t (-1) (m:Int) n es en block rows acc) r) ?_ ?_ 0 (by omega) (by omega)
  ·intro hm
   have hnm:t ∉ S:=fun h=>by have:=List.idxOf_lt_length_of_mem h;omega
   rw[ev_succ];simp only[spec_BuildDfa.l4,ev_ite];rw[if_neg (by omega),ev_succ];simp only[spec_BuildDfa.j6,ev_ite,Option.bind_some];rw[if_neg (by decide),if_pos (by omega),if_pos (by omega),hw];unfold addL at h;rw[if_neg hnm,List.idxOf_eq_length hnm]at h;by_cases hb:((S++ [t]).length:Int)>most
   ·rw[if_pos hb]at h ⊢
    exact ev_some.2 h.symm
   ·rw[if_neg hb]at h ⊢
    rw[if_pos (by omega)];exact h
  · intro m hm ih hle
    have hmm:dR S (m:Int)∈S:=dR_mem (by omega) (by omega);rw[ev_succ];simp only[spec_BuildDfa.l4,ev_ite];rw[if_pos (by omega),decide_eq_true (by omega),ev_succ];simp only[spec_BuildDfa.j6,ev_ite];rw[if_pos (by trivial),if_pos (by omega),if_pos (by omega),wrap_succ hm (by omega)];have hsm:=same_ok (dR S (m:Int)) t (hS _ hmm) (by rw[hS _ hmm];omega);rw[show rd_L11 S (m:Int)=dR S (m:Int)from rfl,ev_bind hsm];simp only[ev_ite,decide_eq_true_eq];by_cases e:dR S (m:Int)=t
    · rw [if_pos e]
      rw [dR_get S m hm]at e;have hx:S.idxOf t=m:=by
        have h1:S.idxOf t≤m:=by
          rcases Nat.lt_or_ge m (S.idxOf t)with h|h
          ·exact absurd e (List.not_of_lt_findIdx (p:=fun x=>x==t) h |> fun q=>by simpa using q)
          ·exact h
        omega
      exact done m hx hm (m+1)
    · rw[if_neg e]
      refine ih ?_;rcases Nat.lt_or_eq_of_le hle with h|h
      ·exact h
      · refine absurd ?_ e
        rw[h];have h1:S.idxOf t<S.length:=by omega
        rw[dR_get _ _ h1];exact List.getElem_idxOf h1
inductive Rch (n:Int) (es:List S116) (bs:List Int):List Bool→Prop
 |start {m:List Bool}:(m.length:Int)=n→(∀q,Mk m q↔Eps es (fun q=>q=0) q)→Rch n es bs m
 |step {m out:List Bool} {b:Int}:Rch n es bs m→b∈bs→(out.length:Int)=n→(∀q,Mk out q↔Eps es (ByB es m b) q)→Rch n es bs out
theorem Rch.len{n:Int}{es:List S116}{bs:List Int}{m:List Bool}(h:Rch n es bs m):(m.length:Int)=n:=by
 cases h with
 |start h _=>exact h
 |step _ _ h _=>exact h
def RowOk(es:List S116)(bs:List Int)(S:List (List Bool))(m:List Bool)(row:List Int):Prop:=
 ∀k:Nat,k<row.length→0≤rd row (k:Int)∧rd row (k:Int)<S.length∧∀q,Mk (dR S (rd row (k:Int))) q↔Eps es (ByB es m (rd bs (k:Int))) q
theorem RowOk.add{es:List S116}{bs:List Int}{S:List (List Bool)}{m:List Bool}{row:List Int}(h:RowOk es bs S m row)(t:List Bool):RowOk es bs (addL S t) m row:=by
 intro k hk;obtain⟨a,b,c⟩:=h k hk;have:=(addL_le S t).1;exact⟨a,by omega,by rw[addL_keep S t _ a b];exact c⟩
theorem rd_snoc2(row:List Int)(v:Int)(k:Nat)(hk:k<(row++ [v]).length):rd (row++ [v]) (k:Int)=if k<row.length then rd row (k:Int)else v:=by
 rw[rd_get _ _ hk];split
 ·rename_i h
  rw[List.getElem_append_left h,rd_get _ _ h]
 ·rename_i h
  rw[List.getElem_append_right (by omega)];simp
theorem RowOk.snoc{es:List S116}{bs:List Int}{S:List (List Bool)}{m:List Bool}{row:List Int}(h:RowOk es bs S m row){v:Int}(h0:0≤v)(h1:v<S.length)(hv:∀q,Mk (dR S v) q↔Eps es (ByB es m (rd bs (row.length:Int))) q):RowOk es bs S m (row++ [v]):=by
 intro k hk;rw[rd_snoc2 row v k hk];split
 ·exact h k ‹_›
 ·have hk2:k=row.length:=by simp at hk;omega
  subst hk2;exact⟨h0,h1,hv⟩
structure DfI (n:Int) (es:List S116) (en:List S138) (bs:List Int) (S:List (List Bool)) (s:Nat) (rows:List (List Int)) (acc:List Int):Prop where
 pos:0<S.length
 st:∀q,Mk (dR S 0) q↔Eps es (fun q=>q=0) q
 nod:S.Nodup
 rch:∀m∈S,Rch n es bs m
 le:s≤S.length
 rl:rows.length=s
 al:acc.length=s
 row:∀j:Nat,j<s→(rd_L1 rows (j:Int)).length=bs.length∧RowOk es bs S (dR S (j:Int)) (rd_L1 rows (j:Int))
 acc:∀j:Nat,j<s→rd acc (j:Int)=accR (dR S (j:Int)) en
theorem DfI.add{n:Int}{es:List S116}{en:List S138}{bs:List Int}{S:List (List Bool)}{s:Nat}{rows:List (List Int)}{acc:List Int}(h:DfI n es en bs S s rows acc){t:List Bool}(ht:Rch n es bs t):DfI n es en bs (addL S t) s rows acc:=by
 have hl:=addL_le S t;have hp:=h.pos;have hle:=h.le;refine⟨by omega,by rw[addL_keep S t 0 (by omega) (by omega)];exact h.st,addL_nodup t h.nod,fun m hm=>?_,by omega,h.rl,h.al,fun j hj=>?_,fun j hj=>?_⟩
 ·rcases addL_mem hm with hm|rfl
  ·exact h.rch m hm
  ·exact ht
 ·obtain⟨a,b⟩:=h.row j hj
  rw[addL_keep S t (j:Int) (by omega) (by omega)];exact⟨a,b.add t⟩
 ·rw[addL_keep S t (j:Int) (by omega) (by omega)]
  exact h.acc j hj
theorem rd1_snoc(rows:List (List Int))(v:List Int)(k:Nat)(hk:k<rows.length+1):rd_L1 (rows++ [v]) (k:Int)=if k<rows.length then rd_L1 rows (k:Int)else v:=by
 unfold rd_L1;rw[Int.toNat_natCast,List.getD_eq_getElem?_getD,List.getElem?_eq_getElem (by simp;omega)];split
 ·rename_i h
  rw[List.getElem_append_left h,List.getD_eq_getElem?_getD,List.getElem?_eq_getElem h]
 ·rename_i h
  rw[List.getElem_append_right (by omega)];simp
theorem DfI.next{n:Int}{es:List S116}{en:List S138}{bs:List Int}{S:List (List Bool)}{s:Nat}{rows:List (List Int)}{acc:List Int}(h:DfI n es en bs S s rows acc)(hs:s<S.length){row:List Int}(hr:row.length=bs.length)(hok:RowOk es bs S (dR S (s:Int)) row):DfI n es en bs S (s+1) (rows++ [row]) (acc++ [accR (dR S (s:Int)) en]):=by
 have hrl:=h.rl;have hal:=h.al;refine⟨h.pos,h.st,h.nod,h.rch,hs,by simp;omega,by simp;omega,fun j hj=>?_,fun j hj=>?_⟩
 ·rw[rd1_snoc rows row j (by omega)]
  split
  ·exact h.row j (by omega)
  ·have:j=s:=by omega
   subst this;exact⟨hr,hok⟩
 ·rw[rd_snoc2 acc _ j (by simp;omega)]
  split
  ·exact h.acc j (by omega)
  ·have:j=s:=by omega
   subst this;rfl
def DfaA(n:Int)(es:List S116)(en:List S138)(most:Int)(block bs:List Int)(r:List Int × List (List Int) × List Int × Bool):Prop:=
 (r=failD∧∃S:List (List Bool),S.Nodup∧(∀m∈S,Rch n es bs m)∧most<(S.length:Int))∨
 (r.1=block∧r.2.2.2=true∧∃S:List (List Bool),(S.length:Int)≤most∧DfI n es en bs S S.length r.2.1 r.2.2.1)
theorem dfa_l3{n:Int}{es:List S116}{en:List S138}(hR:NfaR n es en)(most:Int)(hm:1≤most∧most≤1000)(block bs:List Int)(hbl:bs.length≤256)(hb:∀k:Nat,k<bs.length→0≤rd bs (k:Int)∧rd bs (k:Int)≤255)(s:Nat)(rows:List (List Int))(acc:List Int)
    (hN:∀(S:List (List Bool)) (row:List Int),DfI n es en bs S s rows acc→(S.length:Int)≤most→s<S.length→row.length=bs.length→RowOk es bs S (dR S (s:Int)) row→∃r,Ev (fun k=>spec_BuildDfa.l2 k most (bs.length:Int) bs S ((s+1:Nat):Int) n es en block (rows++ [row]) (acc++ [accR (dR S (s:Int)) en])) r∧DfaA n es en most block bs r):
    ∀k:Nat,k≤bs.length→∀(S:List (List Bool)) (row:List Int),DfI n es en bs S s rows acc→(S.length:Int)≤most→s<S.length→row.length=k→RowOk es bs S (dR S (s:Int)) row→∃r,Ev (fun q=>spec_BuildDfa.l3 q most (bs.length:Int) bs S (s:Int) row (k:Int) n es en block rows acc) r∧DfaA n es en most block bs r:=by
  have hn:=hR.size;refine down bs.length _ ?_ ?_
  ·intro S row hI hSl hs hr hok
   have hrl:=hI.rl;have hal:=hI.al;obtain⟨r,e,h⟩:=hN S row hI hSl hs hr hok;have hlen:=(hI.rch _ (dR_mem (i:=(s:Int)) (by omega) (by omega))).len;refine⟨r,?_,h⟩;rw[ev_succ];simp only[spec_BuildDfa.l3,ev_ite];rw[if_neg (by omega),if_pos (by omega),if_pos (by omega),if_pos (by omega),show rd_L11 S (s:Int)=dR S (s:Int)from rfl,ev_bind (accept_ok hR hlen)];simp only[ev_ite];rw[if_pos (by omega),wrap_succ (m:=2000) (by omega) (by omega)];exact e
  · intro k hk ih S row hI hSl hs hr hok
    have hmem:=dR_mem (S:=S) (i:=(s:Int)) (by omega) (by omega);have hrc:=hI.rch _ hmem;have hlen:=hrc.len;have hbk:=hb k hk;obtain⟨t,e,ht,hq⟩:=step_ok hR hlen (rd bs (k:Int)) hbk;have htr:Rch n es bs t:= .step hrc (by rw[rd_get bs k hk];exact List.getElem_mem _) ht hq;have hSm:∀m∈S,m.length=t.length:=fun m hm=>by have:=(hI.rch m hm).len;omega
    have hal:=addL_le S t;have hat:=addL_at S t;have pre:∀r,Ev (fun q=>spec_BuildDfa.l4 q most (bs.length:Int) bs S (s:Int) row (k:Int) t (-1) 0 n es en block rows acc) r→Ev (fun q=>spec_BuildDfa.l3 q most (bs.length:Int) bs S (s:Int) row (k:Int) n es en block rows acc) r:=by
     intro r h;rw[ev_succ];simp only[spec_BuildDfa.l3,ev_ite];rw[if_pos (by omega),if_pos (by omega),if_pos (by omega),if_pos (by omega),if_pos (by omega),show rd_L11 S (s:Int)=dR S (s:Int)from rfl,ev_bind e];exact h
    by_cases hbig:most<((addL S t).length:Int)
    ·refine⟨failD,pre _ (find_ok most (bs.length:Int) bs S (s:Int) row k t block rows acc hSm (by omega) (by omega) (by omega) (by omega) failD (by rw[if_pos hbig])), .inl ⟨rfl,addL S t,(hI.add htr).nod,(hI.add htr).rch,hbig⟩⟩
    · have hok2:RowOk es bs (addL S t) (dR (addL S t) (s:Int)) (row++ [(S.idxOf t:Int)]):=by
        rw[addL_keep S t (s:Int) (by omega) (by omega)];refine(hok.add t).snoc (by omega) (by omega) (fun q=>?_);rw[hat.2,hr];exact hq q
      obtain⟨r,er,h⟩:=ih (addL S t) (row++ [(S.idxOf t:Int)]) (hI.add htr) (by omega) (by omega) (by simp;omega) hok2;exact⟨r,pre r (find_ok most (bs.length:Int) bs S (s:Int) row k t block rows acc hSm (by omega) (by omega) (by omega) (by omega) r (by rw[if_neg hbig];exact er)),h⟩
theorem dfa_l2{n:Int}{es:List S116}{en:List S138}(hR:NfaR n es en)(most:Int)(hm:1≤most∧most≤1000)(block bs:List Int)(hbl:bs.length≤256)(hb:∀k:Nat,k<bs.length→0≤rd bs (k:Int)∧rd bs (k:Int)≤255):
   ∀(d s:Nat) (S:List (List Bool)) (rows:List (List Int)) (acc:List Int),most.toNat-s=d→DfI n es en bs S s rows acc→(S.length:Int)≤most→∃r,Ev (fun q=>spec_BuildDfa.l2 q most (bs.length:Int) bs S (s:Int) n es en block rows acc) r∧DfaA n es en most block bs r:=by
 intro d
 induction d with
 | zero=>
   intro s S rows acc hd hI hSl;have hle:=hI.le;have hs:S.length=s:=by omega
   refine⟨(block,rows,acc,true),?_, .inr ⟨rfl,rfl,S,hSl,by rw[hs];exact hI⟩⟩;rw[ev_succ];simp only[spec_BuildDfa.l2,ev_ite];rw[if_neg (by omega)];exact ev_some.2 rfl
 | succ d ih=>
   intro s S rows acc hd hI hSl;have hle:=hI.le;by_cases hs:s<S.length
   ·obtain⟨r,e,h⟩:=dfa_l3 hR most hm block bs hbl hb s rows acc (fun S row hI hSl hs hr hok=>ih (s+1) S (rows++ [row]) (acc++ [accR (dR S (s:Int)) en]) (by omega) (hI.next hs hr hok) hSl) 0 (by omega) S [] hI hSl hs rfl (fun k hk=>by simp at hk)
    refine⟨r,?_,h⟩;rw[ev_succ];simp only[spec_BuildDfa.l2,ev_ite];rw[if_pos (by omega)];exact e
   ·have hs:S.length=s:=by omega
    refine⟨(block,rows,acc,true),?_, .inr ⟨rfl,rfl,S,hSl,by rw[hs];exact hI⟩⟩;rw[ev_succ];simp only[spec_BuildDfa.l2,ev_ite];rw[if_neg (by omega)];exact ev_some.2 rfl
structure BytesOf (block bs:List Int) (count:Int):Prop where
 len:(bs.length:Int)=count
 byte:∀k:Nat,k<bs.length→0≤rd bs (k:Int)∧rd bs (k:Int)≤255
 of:∀k:Nat,k<bs.length→rd block (rd bs (k:Int))=(k:Int)
theorem dfa_l1{n:Int}{es:List S116}{en:List S138}(hR:NfaR n es en)(most:Int)(hm:1≤most∧most≤1000)(block:List Int)(count:Int)(hl:block.length=256)(hblk:blk block 0=some count)(hc:1≤count∧count≤256):
    ∃r bs,Ev (fun q=>spec_BuildDfa.l1 q most block count (List.replicate count.toNat 0) 255 n es en) r∧BytesOf block bs count∧DfaA n es en most block bs r:=by
  have hn :=hR.size;have hall:=blk_all block 0 count (by omega) hblk;have key:∀b:Nat,b≤256→∀bs:List Int,(bs.length:Int)=count→(∀k:Nat,k<bs.length→(0≤rd bs (k:Int)∧rd bs (k:Int)≤255)∧((∃b':Nat,b≤b'∧b'<256∧rd block (b':Int)=(k:Int))→rd block (rd bs (k:Int))=(k:Int)))→∃r bs',Ev (fun q=>spec_BuildDfa.l1 q most block count bs ((b:Int)-1) n es en) r∧BytesOf block bs' count∧DfaA n es en most block bs' r:=by
    intro b
    induction b with
    | zero=>
      intro _ bs hbl hbs;have hB:BytesOf block bs count:=⟨hbl,fun k hk=>(hbs k hk).1,fun k hk=>(hbs k hk).2 (by
        have:=blk_onto block 0 count hblk (k:Int) (by omega) (by omega);obtain⟨b',h1,h2⟩:=List.mem_iff_getElem.1 this;exact⟨b',by omega,by omega,by rw[rd_get _ _ h1];exact h2⟩)⟩
      have hz:((List.replicate n.toNat false).set (0:Int).toNat true).length=n.toNat:=by rw[List.length_set,List.length_replicate]
      have hmk:∀q,Mk ((List.replicate n.toNat false).set (0:Int).toNat true) q↔q=0:=by
        intro q;rw[mk_set _ 0 q (by omega) (by rw[List.length_replicate];omega)];refine⟨fun h=>h.elim id (fun h=>?_), .inl⟩;have h1:=h.2;unfold rdOf at h1;rw[List.getD_eq_getElem?_getD,List.getElem?_replicate]at h1;split at h1<;>simp at h1
      obtain⟨t,et,ht,hq⟩:=close_ok hR (on:=(List.replicate n.toNat false).set (0:Int).toNat true) (by rw[hz];omega);have hq2:∀q,Mk t q↔Eps es (fun q=>q=0) q:=fun q=>(hq q).trans ⟨fun h=>h.imp (fun q h=>(hmk q).1 h),fun h=>h.imp (fun q h=>(hmk q).2 h)⟩
      have hI:DfI n es en bs [t] 0 [] []:=⟨by simp,by rw[show dR [t] 0=t from rfl];exact hq2,by simp,fun m hm=>by rw[List.mem_singleton.1 hm];exact .start ht hq2,by omega,rfl,rfl,fun j hj=>by omega,fun j hj=>by omega⟩;obtain⟨r,e,h⟩:=dfa_l2 hR most hm block bs (by omega) (fun k hk=>(hbs k hk).1) _ 0 [t] [] [] rfl hI (by simp;omega);refine⟨r,bs,?_,hB,h⟩;rw[ev_succ];simp only[spec_BuildDfa.l1,ev_ite,Option.bind_some];rw[if_neg (by omega),if_pos (by omega),if_pos (by omega),if_pos (by rw[List.length_replicate];omega),ev_bind et,←hbl];exact e
    | succ b ih=>
      intro h256 bs hbl hbs;have hm:=hall _ (rd_mem (l:=block) (i:=(b:Int)) (by omega) (by omega));obtain⟨r,bs',e,h⟩:=ih (by omega) (bs.set (rd block (b:Int)).toNat ((b:Int) % 256)) (by rw[List.length_set];exact hbl) (fun k hk=>by
        rw[List.length_set]at hk;obtain⟨h1,h2⟩:=hbs k hk;rw[rd_set bs _ _ _ hm.1 (by omega) (by omega)];by_cases e:(k:Int)=rd block (b:Int)
        ·rw[if_pos e]
         refine⟨by omega,fun _=>?_⟩;rw[show(b:Int) % 256=(b:Int) by omega];exact e.symm
        · rw[if_neg e]
          refine⟨h1,fun⟨b',g1,g2,g3⟩=>h2 ⟨b',?_,g2,g3⟩⟩;rcases Nat.lt_or_eq_of_le g1 with g|g
          ·exact g
          · subst g
            exact absurd g3.symm e)
      refine⟨r,bs',?_,h⟩;rw[ev_succ];simp only[spec_BuildDfa.l1,ev_ite];rw[show((b+1:Nat):Int)-1=(b:Int) by omega,if_pos (by omega),if_pos (by omega),if_pos (by omega),if_pos hm.1,if_pos (by omega),wrap_id (x:=(b:Int)-1) (by omega) (by omega)];exact e
  obtain⟨r,bs,e,h⟩:=key 256 (Nat.le_refl _) (List.replicate count.toNat 0) (by rw[List.length_replicate];omega) (fun k hk=>by
   have h0:rd (List.replicate count.toNat (0:Int)) (k:Int)=0:=by rw[rd_get _ _ hk,List.getElem_replicate]
   rw[h0];exact⟨by omega,fun⟨b',h1,h2,_⟩=>by omega⟩)
  exact⟨r,bs,e,h⟩
theorem dfa_l0{n:Int}{es:List S116}{en:List S138}(hR:NfaR n es en)(most:Int)(r:List Int × List (List Int) × List Int × Bool)
   (h:Ev (fun q=>(spec_Blocks.f q (setsR es)).bind fun bt114=>(if(bt114.1.length:Int)=0 then(some (([]:List Int),([]:List (List Int)),([]:List Int),false))else(if 0≤bt114.2 then(if(bt114.2:Int).toNat≤281474976710656 then(spec_BuildDfa.l1 q most bt114.1 bt114.2 (List.replicate (bt114.2:Int).toNat 0) 255 n es en)else(none))else(none)))) r):
   Ev (fun q=>spec_BuildDfa.l0 q most [] 0 n es en) r:=by
 have hf:=hR.few;have key:=down es.length (fun i=>∀xs:List (List S163),xs.length≤i→setsR es=xs++setsR (es.drop i)→Ev (fun q=>spec_BuildDfa.l0 q most xs (i:Nat) n es en) r) ?_ ?_ 0 (by omega) [] (by simp) (by simp)
 ·exact key
 ·intro xs hx he
  rw[List.drop_length]at he;have he:setsR es=xs:=by simpa[setsR]using he
  subst he;rw[ev_succ];simp only[spec_BuildDfa.l0,ev_ite];rw[if_neg (by omega)];exact h
 ·intro i hi ih xs hx he
  have hd:es.drop i=es[i] :: es.drop (i+1):=List.drop_eq_getElem_cons hi;rw[ev_succ];simp only[spec_BuildDfa.l0,ev_ite,rdE_mem hi];rw[if_pos (by omega),if_pos (by omega),wrap_succ hi (by omega)];by_cases c:(es[i].f2.length:Int)>0
  ·rw[if_pos c,if_pos (by omega)]
   refine ih _ (by rw[List.length_append];simp;omega) ?_;rw[he,hd];unfold setsR;rw[List.map_cons,List.filter_cons,if_pos (decide_eq_true (by omega))];simp
  ·rw[if_neg c]
   refine ih _ (by omega) ?_;rw[he,hd];unfold setsR;rw[List.map_cons,List.filter_cons,if_neg (by rw[decide_eq_true_eq];omega)]
theorem BuildDfa_ok{n:Int}{es:List S116}{en:List S138}(hR:NfaR n es en)(most:Int)(hm:1≤most∧most≤1000):
    ∃r,Ev (fun q=>spec_BuildDfa.f q n es en most) r∧((r=failD∧500<(setsR es).length)∨((setsR es).length≤500∧∃block count bs,BlkR (setsR es) block count∧BytesOf block bs count∧DfaA n es en most block bs r)):=by
  have hcl:(setsR es).all classB=true:=by
   rw[List.all_eq_true];intro c hc;obtain⟨e,he,rfl⟩:=List.mem_map.1 (List.mem_filter.1 hc).1;exact(hR.edge e he).2.2
  have fin :∀r,Ev (fun q=>spec_BuildDfa.l0 q most [] 0 n es en) r→Ev (fun q=>spec_BuildDfa.f q n es en most) r:=by
    intro r h;have hb:nfaB n es en=true:=by
      obtain⟨h1,h2,h3,h4⟩:=hR;unfold nfaB;rw[decide_eq_true h1,decide_eq_true h2.1,decide_eq_true h2.2];have e1:es.all (edgeB n)=true:=by
        rw[List.all_eq_true];intro e he;obtain⟨a,b,c⟩:=h3 e he;unfold edgeB;rw[decide_eq_true (by omega),decide_eq_true (by omega),c];rfl
      have e2:∀(l:List S138) (i:Nat),(∀(j:Nat) (e:S138),l[j]? =some e→e.f1=((i+j:Nat):Int)∧0≤e.f0∧e.f0<n)→endsB n i l=true:=by
        intro l
        induction l with
        |nil=>intro i _;rfl
        | cons x l ih=>
          intro i h;have hx:=h 0 x rfl;unfold endsB;rw[decide_eq_true (by simpa using hx.1),decide_eq_true (by omega),ih (i+1) (fun j e he=>by
            have:=h (j+1) e (by rw[List.getElem?_cons_succ];exact he);exact⟨by rw[this.1];congr 1;omega,this.2⟩)]
          rfl
      rw[e1,e2 en 0 (fun j e he=>by simpa using h4 j e he)];rfl
    unfold spec_BuildDfa.f;rw[ev_bind (NfaOk_ok n es en),hb];simp only[spec_l1In_eq,Option.bind_some,ev_ite];rw[if_pos (by trivial),decide_eq_true hm,ev_succ];simp only[spec_BuildDfa.j0,Bool.not_true,Bool.false_eq_true,if_false];exact h
  by_cases h5:(setsR es).length≤500
  ·have hB:=blocksR_true h5 hcl
   obtain⟨r,bs,e,h1,h2⟩:=dfa_l1 hR most hm _ _ hB.len hB.blk hB.pos;refine⟨r,fin r (dfa_l0 hR most r ?_), .inr ⟨h5,_,_,bs,hB,h1,h2⟩⟩;have hlen:=hB.len;have hpos:=hB.pos;rw[ev_bind (Blocks_ok _)];simp only[ev_ite];rw[if_neg (by omega),if_pos (by omega),if_pos (by omega)];exact e
  ·refine⟨failD,fin failD (dfa_l0 hR most failD ?_), .inl ⟨rfl,by omega⟩⟩
   rw[ev_bind (Blocks_ok _)];unfold blocksR;rw[if_neg (fun h=>h5 h.1)];simp only[ev_ite];rw[if_pos (by rfl)];exact ev_some.2 rfl
theorem BuildDfa_none{n:Int}{es:List S116}{en:List S138}(most:Int)(h:nfaB n es en=false∨¬(1≤most∧most≤1000)):Ev (fun q=>spec_BuildDfa.f q n es en most) failD:=by
 have hj:∀q',Ev (fun k=>spec_BuildDfa.j0 k most q' n es en) failD∨q'=false:=by
  intro q';cases q'
  ·exact .inr rfl
  ·left
   rw[ev_succ];simp only[spec_BuildDfa.j0,if_true];exact ev_some.2 rfl
 unfold spec_BuildDfa.f;rw[ev_bind (NfaOk_ok n es en)];simp only[spec_l1In_eq,Option.bind_some,ev_ite];cases hb:nfaB n es en
 ·rw[if_neg (by decide)]
  rcases hj true with h|h
  ·exact h
  ·cases h
 ·rw[if_pos (by trivial)]
  rcases h with h|h
  ·rw[hb]at h;cases h
  ·rw[decide_eq_false h]
   rcases hj true with h|h
   ·exact h
   ·cases h
theorem DfaA.right{n:Int}{es:List S116}{en:List S138}(hR:NfaR n es en){most:Int}(hm:most≤1000){block bs:List Int}{count:Int}{sets:List (List S163)}{r:List Int × List (List Int) × List Int × Bool}(hB:BlkR sets block count)(hb:BytesOf block bs count)(h:DfaA n es en most block bs r)(hr:r.2.2.2=true):dfaB r.1 r.2.1 r.2.2.1=true∧(r.2.1.length:Int)≤most:=by
 rcases h with⟨rfl,_⟩| ⟨h1,_,S,hS,hI⟩
 ·cases hr
 have hrl:=hI.rl;have hal:=hI.al;have hp:=hI.pos;have hbl:=hb.len;refine⟨?_,by omega⟩;unfold dfaB;rw[h1,hB.blk,decide_eq_true (by omega),decide_eq_true (by omega)];simp only[Bool.true_and,Bool.and_eq_true,List.all_eq_true,decide_eq_true_eq];refine⟨fun x hx=>?_,hB.len,fun row hrow=>?_⟩
 ·obtain⟨j,hj,rfl⟩:=List.mem_iff_getElem.1 hx
  rw[←rd_get _ _ hj,hI.acc j (by omega)];exact accR_in en (fun e he=>by
   obtain⟨i,hi,rfl⟩:=List.mem_iff_getElem.1 he;have:=hR.ends i _ (List.getElem?_eq_getElem hi);have:=hR.few;omega)
 ·obtain⟨j,hj,rfl⟩:=List.mem_iff_getElem.1 hrow
  obtain⟨a,b⟩:=hI.row j (by omega);have hg:rd_L1 r.2.1 (j:Int)=r.2.1[j]:=by
   unfold rd_L1;rw[Int.toNat_natCast,List.getD_eq_getElem?_getD,List.getElem?_eq_getElem hj];rfl
  rw[hg]at a b;unfold rowB;simp only[Bool.and_eq_true,decide_eq_true_eq,List.all_eq_true];refine⟨by omega,fun x hx=>?_⟩;obtain⟨k,hk,rfl⟩:=List.mem_iff_getElem.1 hx;obtain⟨c,d,_⟩:=b k hk;rw[rd_get _ _ hk]at c d;omega
theorem BuildNfa_ok(l:List S67)(hl:∀x∈l,x.f0.length≤1048576)(hk:∀x∈l,∀y∈x.f0,y.f2.length≤9223372036854775807):∃(n:Int) (es:List S116) (en:List S138) (b:Bool),Ev (fun k=>spec_BuildNfa.f k l) (n,es,en,b)∧(b=true→NfaR n es en)∧(b=false→n=0∧es= []∧en= []):=by
  have e2:=spec_BuildNfa_ev l hl hk;have fin:∀(n:Int) (es:List S116) (en:List S138) (b:Bool),Ev (fun k=>spec_BuildNfa.g k l) (((n,es),en),b)→Ev (fun k=>spec_BuildNfa.f k l) (n,es,en,b):=by
   intro n es en b h;unfold spec_BuildNfa.f;rw[ev_bind h];exact ev_some.2 rfl
  unfold nfaA at e2;cases hb:okRxs l
  ·rw[hb,if_neg (by decide)]at e2
   exact⟨0,[],[],false,fin _ _ _ _ e2,(fun h=>by cases h),fun _=>⟨rfl,rfl,rfl⟩⟩
  · rw [hb,if_pos rfl]at e2
    obtain⟨p1,p2⟩:=rxs_parts hb;have ha:=up_ag l p2 l.length (Nat.le_refl _);unfold nfaP at e2;cases hf:fullN (upN timesI l l.length).1
    · rw[hf,if_neg (by decide)]at e2
      rcases ha with ha| ⟨a1,_⟩
      · have hi:=upS_in l p2 l.length (Nat.le_refl _)
        have hen:=upN_ends timesS l l.length;rw[←ha]at hi hen;generalize upN timesI l l.length=q at *;obtain⟨⟨n,es⟩,en⟩:=q;have hs:=(Bn.small (s:=(n,es)) (by have:=hi.1.1;show 0≤n;dsimp only at this;omega) hf);have hnf:¬(n>3000∨(es.length:Int)>12000):=fun h=>by rw[(full_iff (n,es)).2 h]at hf;cases hf
        have h1:=hi.1.1;dsimp only at h1 hen;exact⟨n,es,en,true,fin _ _ _ _ e2,fun _=>⟨by omega,by omega,hi.1.2,hi.2⟩,fun h=>by cases h⟩
      · rw[hf]at a1
        cases a1
    ·rw[hf,if_pos rfl]at e2
     exact⟨0,[],[],false,fin _ _ _ _ e2,(fun h=>by cases h),fun _=>⟨rfl,rfl,rfl⟩⟩
def DfaD(b:List Int)(g:Nat→Option (List Int × List (List Int) × List Int × Int)):Prop:=∃d0 d1 d2 q,Ev g (d0,d1,d2,q)∧Dr b q∧dfaB d0 d1 d2=true∧d1.length≤60
def blkD(n:Int):Nat→List Int
 |0=>[]
 |b+1=>blkD n b++ [if 97≤(b:Int)∧(b:Int)<96+n then(b:Int)-96 else 0]
theorem blkD_length(n:Int):∀b,(blkD n b).length=b
 |0=>rfl
 |b+1=>by simp[blkD,blkD_length n b]
theorem blkD_1:blk (blkD 1 256) 0=some 1:=by kernel_rfl
theorem blkD_2:blk (blkD 2 256) 0=some 2:=by kernel_rfl
theorem blkD_3:blk (blkD 3 256) 0=some 3:=by kernel_rfl
theorem blkD_ok{n:Int}(h:1≤n∧n≤3):blk (blkD n 256) 0=some n:=by
 have h:n=1∨n=2∨n=3:=by omega
 rcases h with rfl|rfl|rfl
 ·exact blkD_1
 ·exact blkD_2
 ·exact blkD_3
theorem dfa_rnd{b:List Int}{p:Int}(hp:Dr b p):DfaD b (fun k=>spec_l1Rd_dfa.j0 k b p):=by
  have hl:b.length≤1048576:=hp.2.2.2;obtain⟨v,q,e,v0,v1,hq⟩:=below_ok hp 3;have v1:=v1 (by omega);obtain⟨n,hnv⟩:∃n,1+v=n:=⟨_,rfl⟩;have hn:1≤n∧n≤3:=by omega
  have hwv:wrap64 (1+v)=n:=(wrap_id (by omega) (by omega)).trans hnv
  -- the rows
  have hrows:∀(s:Nat) (d:Nat) (m:Int) (rows:List (List Int)) (acc:List Int) (p:Int),1≤m→m≤7→m.toNat-s=d→s≤m.toNat→rows.length=s→acc.length=s→(∀r∈rows,(r.length:Int)=n∧∀x∈r,0≤x∧x≤m-1)→(∀x∈acc, -1≤x∧x≤39)→Dr b p→DfaD b (fun k=>spec_l1Rd_dfa.l1 k n m (s:Int) b p (blkD n 256) rows acc):=by
    intro s d
    induction d generalizing s with
    | zero=>
      intro m rows acc p h1 h7 hd hs hr ha hrow hacc hp;refine⟨blkD n 256,rows,acc,p,?_,hp,?_,by omega⟩
      · rw[ev_succ]
        simp only[spec_l1Rd_dfa.l1,ev_ite];rw[if_neg (by omega)];exact ev_some.2 rfl
      · unfold dfaB
        rw[blkD_ok hn,decide_eq_true (by omega),decide_eq_true (by omega)];simp only[Bool.true_and,Bool.and_eq_true,List.all_eq_true,decide_eq_true_eq];refine⟨hacc,blkD_length n 256,fun r hrm=>?_⟩;unfold rowB;simp only[Bool.and_eq_true,decide_eq_true_eq,List.all_eq_true];obtain⟨a,c⟩:=hrow r hrm;exact⟨a,fun x hx=>by have:=c x hx;omega⟩
    | succ d ih=>
      intro m rows acc p h1 h7 hd hs hr ha hrow hacc hp;have hrow2:=down n.toNat (fun k0=>∀(row:List Int) (p:Int),row.length=k0→(∀x∈row,0≤x∧x≤m-1)→Dr b p→DfaD b (fun k=>spec_l1Rd_dfa.l2 k n m (s:Int) row (k0:Nat) b p (blkD n 256) rows acc)) ?_ ?_ 0 (by omega) [] p rfl (fun x hx=>by cases hx) hp
      · obtain⟨d0,d1,d2,q,e,h⟩:=hrow2
        refine⟨d0,d1,d2,q,?_,h⟩;rw[ev_succ];simp only[spec_l1Rd_dfa.l1,ev_ite];rw[if_pos (by omega)];exact e
      · intro row p hrl hx hp
        obtain⟨a,q,e,a0,a1,hq⟩:=below_ok hp 4;have a1:=a1 (by omega);obtain⟨d0,d1,d2,q2,e2,h⟩:=ih (s+1) m (rows++ [row]) (acc++ [a-1]) q h1 h7 (by omega) (by omega) (by simp;omega) (by simp;omega) (fun r hr=>by
          rcases List.mem_append.1 hr with hr|hr
          ·exact hrow r hr
          · rw[List.mem_singleton.1 hr]
            exact⟨by omega,hx⟩) (fun x hx=>by
          rcases List.mem_append.1 hx with hx|hx
          ·exact hacc x hx
          · rw[List.mem_singleton.1 hx]
            omega) hq
        refine⟨d0,d1,d2,q2,?_,h⟩;rw[ev_succ];simp only[spec_l1Rd_dfa.l2,ev_ite,e,Option.bind_some];rw[if_neg (by omega),if_pos (by omega),if_pos (by omega),wrap_succ (m:=1000) (by omega) (by omega),wrap_id (x:=a-1) (by omega) (by omega)];exact e2
      · intro k0 hk ihk row p hrl hx hp
        obtain⟨a,q,e,a0,a1,hq⟩:=below_ok hp m;have a1:=a1 (by omega);obtain⟨d0,d1,d2,q2,e2,h⟩:=ihk (row++ [a]) q (by simp;omega) (fun x hx2=>by
          rcases List.mem_append.1 hx2 with hx2|hx2
          ·exact hx x hx2
          · rw[List.mem_singleton.1 hx2]
            omega) hq
        refine⟨d0,d1,d2,q2,?_,h⟩;rw[ev_succ];simp only[spec_l1Rd_dfa.l2,ev_ite,e,Option.bind_some];rw[if_pos (by omega),if_pos (by omega),wrap_succ (m:=1000) (by omega) (by omega)];exact e2
  -- the blocks
  have hblk:=down 256 (fun i=>∀p:Int,Dr b p→DfaD b (fun k=>spec_l1Rd_dfa.l0 k n (i:Nat) b p (blkD n i))) ?_ ?_ 0 (by omega) q hq
  ·obtain⟨d0,d1,d2,q2,e2,h⟩:=hblk
   refine⟨d0,d1,d2,q2,?_,h⟩;rw[ev_succ];simp only[spec_l1Rd_dfa.j0,e,Option.bind_some,hwv];exact e2
  ·intro p hp
   have hm:mn 7 (wrap64 (1+wrap64 ((b.length:Int) / 5)))≤7∧1≤mn 7 (wrap64 (1+wrap64 ((b.length:Int) / 5))):=by
    rw[wrap_id (x:=(b.length:Int) / 5) (by omega) (by omega),wrap_id (by omega) (by omega)];unfold mn;split<;>omega
   obtain⟨a,q,e,a0,a1,hq⟩:=below_ok hp (mn 7 (wrap64 (1+wrap64 ((b.length:Int) / 5))));have a1:=a1 hm.2;obtain⟨d0,d1,d2,q2,e2,h⟩:=hrows 0 _ (1+a) [] [] q (by omega) (by omega) rfl (by omega) rfl rfl (fun x hx=>by cases hx) (fun x hx=>by cases hx) hq;refine⟨d0,d1,d2,q2,?_,h⟩;rw[ev_succ];simp only[spec_l1Rd_dfa.l0,ev_ite,e,Option.bind_some];rw[if_neg (by omega),wrap_id (x:=1+a) (by omega) (by omega)];exact e2
  · intro i hi ih p hp
    obtain⟨d0,d1,d2,q2,e2,h⟩:=ih p hp;have hln:=blkD_length n i;refine⟨d0,d1,d2,q2,?_,h⟩;rw[ev_succ];simp only[spec_l1Rd_dfa.l0,ev_ite];rw[if_pos (by omega),wrap_id (x:=97+n) (by omega) (by omega),wrap_id (x:=97+n-1) (by omega) (by omega),wrap_succ (m:=256) hi (by omega),wrap_id (x:=(i:Int)-96) (by omega) (by omega)];have hst:blkD n (i+1)=blkD n i++ [if 97≤(i:Int)∧(i:Int)<96+n then(i:Int)-96 else 0]:=rfl;rw[hst]at e2;by_cases c1:(i:Int)≥97
    · rw[if_pos c1]
      by_cases c2:(i:Int)<97+n-1
      · rw[if_pos c2,if_pos (by omega)]
        rw[if_pos (by omega)]at e2;exact e2
      · rw[if_neg c2,if_pos (by omega)]
        rw[if_neg (by omega)]at e2;exact e2
    ·rw[if_neg c1,if_pos (by omega)]
     rw[if_neg (by omega)]at e2;exact e2
theorem dfa_ok{b:List Int}{p:Int}(hp:Dr b p):DfaD b (fun k=>spec_l1Rd_dfa.f k b p):=by
  unfold spec_l1Rd_dfa.f;obtain⟨o,q,e,hq⟩:=once_ok hp 2;simp only[e,Option.bind_some];cases o
  ·simp only[Bool.false_eq_true,if_false]
   exact dfa_rnd hq
  simp only[if_true];obtain⟨l,q2,el,hq2,hl⟩:=rxs_ok hq;obtain⟨n,es,en,ok,en2,h1,h2⟩:=BuildNfa_ok l (fun x hx=>by have:=(hl x hx).1;omega) (fun x hx y hy=>by have:=(hl x hx).2 y hy;omega);obtain⟨d0,d1,d2,q3,e3,hq3,h3,h4⟩:=dfa_rnd hq2;have rnd:∀ {r:List Int × List (List Int) × List Int × Bool},Ev (fun k=>spec_BuildDfa.f k n es en 60) r→(ok=false∨r.2.2.2=false)→DfaD b (fun k=>(spec_l1Rd_rxs.f k b q).bind fun bt104=>((spec_BuildNfa.f k bt104.1).bind fun bt108=>((spec_BuildDfa.f k bt108.1 bt108.2.1 bt108.2.2.1 60).bind fun bt117=>(if bt108.2.2.2=true then(if bt117.2.2.2=true then(some (bt117.1,bt117.2.1,bt117.2.2.1,bt104.2))else(spec_l1Rd_dfa.j0 k b bt104.2))else(spec_l1Rd_dfa.j0 k b bt104.2))))):=by
    intro r er hf;refine⟨d0,d1,d2,q3,?_,hq3,h3,h4⟩;rw[ev_bind el,ev_bind en2,ev_bind er];simp only[ev_ite];rcases hf with hf|hf
    ·rw[if_neg (by rw[hf];decide)]
     exact e3
    · split
      · rw[if_neg (by rw[hf];decide)]
        exact e3
      ·exact e3
  cases hok:ok
  ·obtain⟨rfl,rfl,rfl⟩:=h2 hok
   exact rnd (BuildDfa_none 60 (.inl (by rfl))) (.inl hok)
  · have hR:=h1 hok
    obtain⟨r,er,hr⟩:=BuildDfa_ok hR 60 ⟨by omega,by omega⟩;cases hrb:r.2.2.2
    ·exact rnd er (.inr hrb)
    · rcases hr with⟨rfl,_⟩| ⟨_,block,count,bs,hB,hb,hA⟩
      ·cases hrb
      · obtain⟨g1,g2⟩:=hA.right hR (by omega) hB hb hrb
        refine⟨r.1,r.2.1,r.2.2.1,q2,?_,hq2,g1,by omega⟩;rw[ev_bind el,ev_bind en2,ev_bind er];simp only[ev_ite];rw[if_pos hok,if_pos hrb];exact ev_some.2 rfl
end Go.Proofs.Ytlecpdpdcocibaa.P
namespace Go.Proofs.Ytlecpdpdcocibaa.P
open Go.RowKit Go.Proofs.YtlecpdpdcocibaaW.PrintWords Go.Proofs.YtlecpdpdcocibaaW.PrintLast Go.Proofs.YtlecpdpdcocibaaEv
set_option linter.unusedVariables false
set_option linter.unusedSimpArgs false
theorem drop_rd1(l:List (List Int))(i:Nat)(h:i<l.length):l.drop i=rd_L1 l (i:Int) :: l.drop (i+1):=by
 rw[drop_cons l [] i h];simp[rd_L1]
theorem spec_DfaOk_l1_ev(l0:List Int)(l1:List (List Int))(l2:List Int)(s:Nat)(t:Int)(R:Bool)(hn:1≤l1.length∧l1.length≤1000)(hs:s<l1.length)(hrow:((rd_L1 l1 (s:Int)).length:Int)=t)(ht:t≤1000000)(hR:Ev (fun k=>spec_DfaOk.l0 k (l1.length:Int) t ((s+1:Nat):Int) l0 l1 l2) R):
   Ev (fun k=>spec_DfaOk.l1 k (l1.length:Int) t (s:Int) 0 l0 l1 l2) (((rd_L1 l1 (s:Int)).all fun x=>decide (0≤x∧x≤(l1.length:Int)-1))&&R):=by
 have h:=ev_loop (rd_L1 l1 (s:Int)).length (fun k i=>spec_DfaOk.l1 k (l1.length:Int) t (s:Int) (i:Nat) l0 l1 l2) (fun i=>(((rd_L1 l1 (s:Int)).drop i).all fun x=>decide (0≤x∧x≤(l1.length:Int)-1))&&R) ?_ ?_ 0 (by omega)
 ·simpa using h
 ·rw[ev_succ]
  simp only[spec_DfaOk.l1,ev_ite];rw[if_neg (by omega),wrap_succ hs (by omega),List.drop_length];simpa using hR
 ·intro i hi ih
  rw[ev_succ,drop_rd (rd_L1 l1 (s:Int)) i hi];simp only[spec_DfaOk.l1,ev_ite];rw[if_pos (by omega),if_pos (by omega),if_pos (by omega),if_pos (by omega),if_pos (by omega),spec_l1In_eq,ev_bind_some,wrap_id (x:=(l1.length:Int)-1) (by omega) (by omega),wrap_succ hi (by omega)];simp only[ev_ite,decide_eq_true_eq,List.all_cons];by_cases hx:0≤rd (rd_L1 l1 (s:Int)) (i:Int)∧rd (rd_L1 l1 (s:Int)) (i:Int)≤(l1.length:Int)-1
  ·rw[if_pos hx,decide_eq_true hx,Bool.true_and]
   exact ih
  ·rw[if_neg hx,decide_eq_false hx]
   exact ev_some.2 rfl
theorem spec_DfaOk_l0_ev(l0:List Int)(l1:List (List Int))(l2:List Int)(t:Int)(hn:1≤l1.length∧l1.length≤1000)(h2:l2.length=l1.length)(ht:t≤1000000):
    Ev (fun k=>spec_DfaOk.l0 k (l1.length:Int) t 0 l0 l1 l2) ((l2.all fun x=>decide (-1≤x∧x≤39))&&l1.all (rowB t l1.length)):=by
  have h:=ev_loop l1.length (fun k i=>spec_DfaOk.l0 k (l1.length:Int) t (i:Nat) l0 l1 l2) (fun i=>((l2.drop i).all fun x=>decide (-1≤x∧x≤39))&&(l1.drop i).all (rowB t l1.length)) ?_ ?_ 0 (by omega)
  ·simpa using h
  ·rw[ev_succ]
   simp only[spec_DfaOk.l0,Int.lt_irrefl,if_false];rw[List.drop_length,show l2.drop l1.length= [] by rw[List.drop_eq_nil_iff];omega];exact ev_some.2 rfl
  · intro s hs ih
    rw[ev_succ,drop_rd l2 s (by omega),drop_rd1 l1 s hs];simp only[spec_DfaOk.l0,ev_ite];rw[if_pos (by omega),if_pos (by omega),if_pos (by omega),spec_l1In_eq,ev_bind_some];simp only[ev_ite,decide_eq_true_eq,List.all_cons];by_cases hx: -1≤rd l2 (s:Int)∧rd l2 (s:Int)≤39
    · rw[if_pos hx,decide_eq_true hx,Bool.true_and,if_pos (by omega),ev_succ]
      simp only[spec_DfaOk.j2,ev_ite];by_cases e:((rd_L1 l1 (s:Int)).length:Int)=t
      · rw[if_neg (by simpa using e)]
        refine ev_congr (spec_DfaOk_l1_ev l0 l1 l2 s t _ hn hs e ht ih) ?_;unfold rowB;rw[decide_eq_true e,Bool.true_and];generalize((rd_L1 l1 (s:Int)).all fun x=>decide (0≤x∧x≤(l1.length:Int)-1))=a;generalize((l2.drop (s+1)).all fun x=>decide (-1≤x∧x≤39))=b;generalize List.all _ _=c;cases a<;>cases b<;>cases c<;>rfl
      · rw[if_pos (by simpa using e)]
        refine ev_some.2 ?_;unfold rowB;rw[decide_eq_false e];simp
    ·rw[if_neg hx,decide_eq_false hx,ev_succ]
     simp only[spec_DfaOk.j2,if_true];exact ev_some.2 (by simp)
theorem spec_DfaOk_ev(l0:List Int)(l1:List (List Int))(l2:List Int)(hl:l0.length≤1048576):Ev (fun k=>spec_DfaOk.f k l0 l1 l2) (dfaB l0 l1 l2):=by
 unfold spec_DfaOk.f;rw[ev_bind (spec_l7Blocks_ev l0)];have hj:∀t:Int,Ev (fun k=>spec_DfaOk.j0 k (l1.length:Int) t true l0 l1 l2) false:=fun t=>by
  rw[ev_succ];simp only[spec_DfaOk.j0,if_true];exact ev_some.2 rfl
 unfold dfaB;simp only[ev_ite];by_cases h1:(l1.length:Int)<1
 ·rw[if_pos h1,decide_eq_false (by omega),Bool.false_and]
  exact hj _
 rw[if_neg h1];by_cases h2:(l1.length:Int)>1000
 ·rw[if_pos h2,decide_eq_false (by omega),Bool.false_and]
  exact hj _
 rw[if_neg h2,decide_eq_true (show 1≤(l1.length:Int)∧(l1.length:Int)≤1000 by omega),Bool.true_and];by_cases h3:(l2.length:Int)=l1.length;rotate_left
 ·rw[if_neg h3,decide_eq_false h3,Bool.false_and]
  exact hj _
 rw[if_pos h3,decide_eq_true h3,Bool.true_and,ev_succ];unfold blkS;simp only[spec_DfaOk.j0,ev_ite,decide_eq_true_eq];by_cases h256:l0.length=256;rotate_left
 ·rw[if_neg h256,if_pos (by omega)]
  refine ev_some.2 ?_;cases blk l0 0<;>simp[h256]
 rw[if_pos h256];cases hb:blk l0 0 with
 | none=>
   simp only;rw[if_pos (by omega)];exact ev_some.2 (by simp)
 | some m=>
   have hm:=blk_nonneg l0 0 m (by omega) hb;have hm2:=blk_le l0 0 m (by omega) hb;simp only;rw[if_neg (by omega),decide_eq_true h256,Bool.true_and];exact spec_DfaOk_l0_ev l0 l1 l2 m (by omega) (by omega) (by omega)
end Go.Proofs.Ytlecpdpdcocibaa.P
namespace Go.Proofs.Ytlecpdpdcocibaa.P
open Go.RowKit Go.Proofs.YtlecpdpdcocibaaW.PrintWords Go.Proofs.YtlecpdpdcocibaaW.PrintLast Go.Proofs.YtlecpdpdcocibaaEv
set_option linter.unusedVariables false
set_option linter.unusedSimpArgs false
def genC(l0:List Int)(l1:List (List Int))(l2:List Int):List S79:=if dfaB l0 l1 l2=true then codeG l0 l1 l2 l1.length else[]
theorem spec_GenCode_ev(l0:List Int)(l1:List (List Int))(l2:List Int)(hl:l0.length≤1048576):Ev (fun k=>spec_GenCode.f k l0 l1 l2) (genC l0 l1 l2,dfaB l0 l1 l2):=by
  obtain⟨k0,h0⟩:=spec_DfaOk_ev l0 l1 l2 hl;have hd:∀n,dfaB l0 l1 l2=true→n≤l1.length→∃k1,∀k,k1≤k→∀s,s<n→spec_l10Default.f k (rowG l0 l1 (s:Int) 256) l1.length=some (bestR (rowG l0 l1 (s:Int) 256) l1.length):=by
    intro n hb;obtain⟨m,hD⟩:=dfaB_true hb
    induction n with
    |zero=>exact fun _=>⟨0,fun k _ s hs=>absurd hs (Nat.not_lt_zero _)⟩
    | succ n ih=>
      intro hn;obtain⟨k1,h1⟩:=ih (by omega);obtain⟨k2,h2⟩:=spec_l10Default_ev (rowG l0 l1 (n:Int) 256) l1.length hD.rows (by rw[rowG_length];omega) (hD.to_ _ (by omega) (by omega));refine⟨max k1 k2,fun k hk s hs=>?_⟩;by_cases e:s=n
      · subst e
        exact h2 k (by omega)
      ·exact h1 k (by omega) s (by omega)
  by_cases hb:dfaB l0 l1 l2=true
  ·obtain⟨k1,h1⟩:=hd l1.length hb (Nat.le_refl _)
   refine⟨max k0 k1,fun k hk=>?_⟩;exact if_pos (show _∧_ from⟨h0 k (by omega),fun _=>h1 k (by omega)⟩)
  ·refine⟨k0,fun k hk=>?_⟩
   exact if_pos (show _∧_ from⟨h0 k hk,fun h=>absurd h hb⟩)
theorem genC_arms(l0:List Int)(l1:List (List Int))(l2:List Int):∀x∈genC l0 l1 l2,x.f1.length≤256:=by
 unfold genC;split
 ·intro x hx
  obtain⟨s,_,rfl⟩:=List.mem_map.1 hx;exact armsUp_length _ _ 256
 ·intro x hx
  simp at hx
end Go.Proofs.Ytlecpdpdcocibaa.P
namespace Go.Proofs.Ytlecpdpdcocibaa.P
open Go.RowKit Go.Proofs.YtlecpdpdcocibaaW.PrintWords Go.Proofs.YtlecpdpdcocibaaW.PrintLast Go.Proofs.YtlecpdpdcocibaaEv
set_option linter.unusedVariables false
set_option linter.unusedSimpArgs false
def armsR(many:Int):Int→List S81→Bool
 | _,[]=>true
 |last,a :: rest=>decide (0≤a.f0)&&decide (a.f0≤a.f1)&&decide (a.f1≤255)&&decide (last<a.f0)&&decide (0≤a.f2∧a.f2≤many-1)&&armsR many a.f1 rest
def armsB(many:Int)(l:List S81):Bool:=armsR many (-1) l
def blockB(many:Int)(b:S79):Bool:=decide (-1≤b.f0∧b.f0≤39)&&decide (0≤b.f2∧b.f2≤many-1)&&armsB many b.f1
def codeB(l:List S79):Bool:=decide (1≤l.length)&&decide (l.length≤1000)&&l.all (blockB l.length)
end Go.Proofs.Ytlecpdpdcocibaa.P
namespace Go.Proofs.Ytlecpdpdcocibaa.P
open Go.RowKit Go.Proofs.YtlecpdpdcocibaaW.PrintWords Go.Proofs.YtlecpdpdcocibaaW.PrintLast Go.Proofs.YtlecpdpdcocibaaEv
set_option linter.unusedVariables false
set_option linter.unusedSimpArgs false
theorem armsR_few(many:Int):∀(l:List S81) (last:Int), -1≤last→armsR many last l=true→(l.length:Int)≤255-last∨l= []:=by
 intro l
 induction l with
 |nil=>intro last _ _;exact .inr rfl
 | cons a l ih=>
   intro last h0 h;simp only[armsR,Bool.and_eq_true,decide_eq_true_eq]at h
   left
   rcases ih a.f1 (by omega) h.2 with h1|h1
   ·simp only[List.length_cons]
    omega
   ·subst h1
    simp;omega
theorem armsB_few{many:Int}{l:List S81}(h:armsB many l=true):l.length≤256:=by
 rcases armsR_few many l (-1) (by omega) h with h1|h1
 ·omega
 ·simp[h1]
theorem spec_l18Arms_ev(b:S79)(many:Int)(h0:1≤many)(h1:many≤1000):Ev (fun k=>spec_l18Arms.f k b.f0 b.f1 b.f2 many) (blockB many b):=by
  unfold spec_l18Arms.f blockB;simp only[ev_ite];by_cases h6:b.f1.length≤256
  · rw [if_neg (by omega)]
    have hw:wrap64 (many-1)=many-1:=wrap_id (by omega) (by omega);obtain⟨f0,l,f2⟩:=b;simp only at h6 ⊢;have key:=down l.length (fun i=>∀last:Int,(i=0→last= -1)→(0<i→last=(rd_T81 l ((i-1:Nat):Int)).f1)→Ev (fun k=>spec_l18Arms.l0 k many (i:Nat) f0 l f2) (decide (-1≤f0∧f0≤39)&&decide (0≤f2∧f2≤many-1)&&armsR many last (l.drop i))) ?_ ?_ 0 (by omega) (-1) (fun _=>rfl) (by omega)
    ·exact key
    ·intro last _ _
     rw[ev_succ];simp only[spec_l18Arms.l0,ev_ite,spec_l1In_eq,Option.bind_some,ev_some,hw];rw[if_neg (by omega),List.drop_length];simp only[armsR,Bool.and_true];split<;>simp_all<;>(intros;omega)
    · intro i hi ih last hl0 hl1
      rw[ev_succ,drop_cons l z81 i hi];have hr:l.getD i z81=rd_T81 l i:=by simp[rd_T81]
      rw[hr];have ih2:=ih (rd_T81 l i).f1 (by omega) (fun _=>by rw[Nat.add_sub_cancel]);simp only[spec_l18Arms.l0,spec_l1In_eq,Option.bind_some,ev_ite,ev_some,armsR,hw];rw[if_pos (by omega),if_pos (by omega),wrap_succ hi (by omega)];have hprev:0<i→(0≤wrap64 ((i:Int)-1)∧wrap64 ((i:Int)-1)<l.length∧(rd_T81 l (wrap64 ((i:Int)-1))).f1=last):=by
        intro hp;rw[wrap_id (x:=(i:Int)-1) (by omega) (by omega)];exact⟨by omega,by omega,by rw[hl1 hp,show((i:Int)-1)=((i-1:Nat):Int) by omega]⟩
      generalize(l.drop (i+1))=T at *;generalize rd_T81 l (i:Int)=a at *;generalize hG:(fun k=>spec_l18Arms.l0 k many ((i+1:Nat):Int) f0 l f2)=G at *;generalize(decide (-1≤f0∧f0≤39)&&decide (0≤f2∧f2≤many-1))=D at *;by_cases c1:0≤a.f0∧a.f0≤a.f1
      · rw [if_pos (by simpa using c1)]
        by_cases c3:a.f1>255
        ·rw[if_pos c3];simp[show ¬a.f1≤255 by omega]
        rw[if_neg c3];by_cases c4:0≤a.f2∧a.f2≤many-1
        · rw [if_pos (by simpa using c4)]
          have hend:(last<a.f0)→Ev G (D&&(decide (0≤a.f0)&&decide (a.f0≤a.f1)&&decide (a.f1≤255)&&decide (last<a.f0)&&decide (0≤a.f2∧a.f2≤many-1)&&armsR many a.f1 T)):=by
            intro h5;refine ev_congr ih2 ?_;simp[c4,c1,show a.f1≤255 by omega,h5]
          by_cases h00:i=0
          · rw[if_neg (by omega)]
            exact hend (by have:=hl0 h00;omega)
          · obtain⟨h1',h2',h3'⟩:=hprev (by omega)
            rw[if_pos (by omega),if_pos h1',if_pos h2',h3'];by_cases c5:a.f0≤last
            ·rw[if_pos c5];simp[show ¬last<a.f0 by omega]
            · rw[if_neg c5]
              exact hend (by omega)
        ·rw[if_neg (by simpa using c4)]
         simp[c4]
      · rw[if_neg (by simpa using c1)]
        by_cases c2:0≤a.f0
        ·simp[c2,show ¬a.f0≤a.f1 by omega]
        ·simp[c2]
  ·rw[if_pos (by omega)]
   refine ev_some.2 ?_;cases h:armsB many b.f1
   ·simp
   ·exact absurd (armsB_few h) h6
theorem spec_CodeOk_ev(l:List S79)(hl:l.length≤1048576):Ev (fun k=>spec_CodeOk.f k l) (codeB l):=by
 have hloop:1≤l.length→l.length≤1000→Ev (fun k=>spec_CodeOk.l0 k l.length 0 l) (l.all (blockB l.length)):=by
  intro h1 h2;have key:=ev_loop l.length (fun k i=>spec_CodeOk.l0 k l.length (i:Nat) l) (fun i=>(l.drop i).all (blockB l.length)) ?_ ?_ 0 (by omega)
  ·simpa using key
  ·rw[ev_succ]
   simp[spec_CodeOk.l0,ev_some]
  ·intro i hi ih
   rw[ev_succ];simp only[spec_CodeOk.l0,ev_ite];rw[if_pos (by omega),if_pos (by omega),if_pos (by omega),ev_bind (spec_l18Arms_ev (rd_T79 l i) l.length (by omega) (by omega)),wrap_succ hi (by omega),all_drop l z79 _ i hi];simp only[ev_ite,ev_some];have:l.getD i z79=rd_T79 l i:=by simp[rd_T79]
   rw[this];cases h:blockB l.length (rd_T79 l i)
   ·simp
   ·simpa using ih
 have hj:∀b,(b=false→1≤l.length∧l.length≤1000)→Ev (fun k=>spec_CodeOk.j0 k l.length b l) (!b&&l.all (blockB l.length)):=by
  intro b h6;rw[ev_succ];simp only[spec_CodeOk.j0,ev_ite,ev_some];cases b
  ·have:=hloop (h6 rfl).1 (h6 rfl).2
   simpa using this
  ·simp
 unfold spec_CodeOk.f codeB;simp only[ev_ite];by_cases h1:1≤l.length
 ·rw[if_neg (by omega)]
  by_cases h2:l.length≤1000
  ·rw[decide_eq_false (show ¬(l.length:Int)>1000 by omega)]
   exact ev_congr (hj _ (fun _=>⟨h1,h2⟩)) (by simp[h1,h2])
  ·rw[decide_eq_true (show(l.length:Int)>1000 by omega)]
   exact ev_congr (hj _ (by simp)) (by simp[h2])
 ·rw[if_pos (by omega)]
  exact ev_congr (hj _ (by simp)) (by simp[h1])
end Go.Proofs.Ytlecpdpdcocibaa.P
namespace Go.Proofs.Ytlecpdpdcocibaa.P
open Go.RowKit Go.Proofs.YtlecpdpdcocibaaW.PrintWords Go.Proofs.YtlecpdpdcocibaaW.PrintLast Go.Proofs.YtlecpdpdcocibaaW.PrintMore
attribute [local go_sem] max2_int min2_int max_two min_two max_three min_three max_four min_four
set_option linter.unusedVariables false
set_option linter.unusedSimpArgs false
def impl_Arm.f(l0:List (S81)):Option (Int):=some (l0.length:Int)
def impl_stepsIn.f(a0_0:Int)(l0_1:List (S81))(a0_2:Int):Option (Int):=(impl_Arm.f l0_1).bind fun t102=>(if a0_0≥0 then(some (wrap64 ((wrap64 (2+(wrap64 (3*t102))))+1)))else(some (wrap64 (2+(wrap64 (3*t102))))))
mutual
def impl_Compile.l0:Nat→List Int→Int→List (S79)→Int→Int→List (S79)→Option ((List (S105)) × Bool)
 |0,_,_,_,_,_,_=>none
 |k+1,x4,x5,x19,x20,x21,x102000=>if x21<x20 then(if 0≤x21 then(if x21<(x19.length:Int)then(if x4.length<17592186044416 then((impl_stepsIn.f ((rd_T79 x19 x21).f0) ((rd_T79 x19 x21).f1) ((rd_T79 x19 x21).f2)).bind fun t111=>(impl_Compile.l0 k (x4++ [x5]) (wrap64 (x5+t111)) x19 x20 (wrap64 (x21+1)) x102000))else(none))else(none))else(none))else(if x5>60000 then(some (([]:List (S105)),false))else(impl_Compile.l1 k x4 (([]:List (S105))) x102000 (x102000.length:Int) 0))
def impl_Compile.l1:Nat→List Int→List (S105)→List (S79)→Int→Int→Option ((List (S105)) × Bool)
 |0,_,_,_,_,_=>none
 |k+1,x4,x8,x38,x39,x40=>if x40<x39 then(if 0≤x40 then(if x40<(x38.length:Int)then(if((rd_T79 x38 x40).f0)≥0 then(if x8.length<5864062014805 then(impl_Compile.j2 k x4 (x8++ [(⟨1,(rd_T79 x38 x40).f0,0⟩:S105)]) x40 x38 x39 x40 ((rd_T79 x38 x40).f0) ((rd_T79 x38 x40).f1) ((rd_T79 x38 x40).f2))else(none))else(impl_Compile.j2 k x4 x8 x40 x38 x39 x40 ((rd_T79 x38 x40).f0) ((rd_T79 x38 x40).f1) ((rd_T79 x38 x40).f2)))else(none))else(none))else(some (x8,true))
def impl_Compile.j2:Nat→List Int→List (S105)→Int→List (S79)→Int→Int→Int→List (S81)→Int→Option ((List (S105)) × Bool)
 |0,_,_,_,_,_,_,_,_,_=>none
 |k+1,x4,x8,x9,x38,x39,x40,x117000,x117001,x117002=>if x8.length<5864062014805 then(if 0≤x9 then(if x9<(x4.length:Int)then((impl_stepsIn.f x117000 x117001 x117002).bind fun t124=>(impl_Compile.l2 k x4 (x8++ [(⟨2,0,0⟩:S105)]) (wrap64 ((wrap64 ((rd x4 x9)+t124))-1)) x38 x39 x40 x117001 (x117001.length:Int) 0 x117000 x117001 x117002))else(none))else(none))else(none)
def impl_Compile.l2:Nat→List Int→List (S105)→Int→List (S79)→Int→Int→List (S81)→Int→Int→Int→List (S81)→Int→Option ((List (S105)) × Bool)
 |0,_,_,_,_,_,_,_,_,_,_,_,_=>none
 |k+1,x4,x8,x11,x38,x39,x40,x67,x68,x69,x117000,x117001,x117002=>if x69<x68 then(if 0≤x69 then(if x69<(x67.length:Int)then(if x8.length<5864062014805 then((some (x8++ [(⟨3,(rd_T81 x67 x69).f0,x11⟩:S105)]:List (S105))).bind fun y127=>((impl_MOp.f y127).bind fun t130=>(if y127.length<5864062014805 then((some (y127++ [(⟨4,(rd_T81 x67 x69).f1,wrap64 (t130+2)⟩:S105)]:List (S105))).bind fun y131=>(if 0≤((rd_T81 x67 x69).f2)then(if((rd_T81 x67 x69).f2)<(x4.length:Int)then(if y131.length<5864062014805 then(impl_Compile.l2 k x4 (y131++ [(⟨5,rd x4 ((rd_T81 x67 x69).f2),0⟩:S105)]) x11 x38 x39 x40 x67 x68 (wrap64 (x69+1)) x117000 x117001 x117002)else(none))else(none))else(none)))else(none))))else(none))else(none))else(none))else(if 0≤x117002 then(if x117002<(x4.length:Int)then(if x8.length<5864062014805 then(impl_Compile.l1 k x4 (x8++ [(⟨5,rd x4 x117002,0⟩:S105)]) x38 x39 (wrap64 (x40+1)))else(none))else(none))else(none))
end
end Go.Proofs.Ytlecpdpdcocibaa.P
namespace Go.Proofs.Ytlecpdpdcocibaa.P
open Go.RowKit Go.Proofs.YtlecpdpdcocibaaW.PrintWords Go.Proofs.YtlecpdpdcocibaaW.PrintLast Go.Proofs.YtlecpdpdcocibaaW.PrintMore Go.Proofs.YtlecpdpdcocibaaEv
set_option linter.unusedVariables false
set_option linter.unusedSimpArgs false
def stepsI(b:S79):Int:=2+3*b.f1.length+(if b.f0≥0 then 1 else 0)
def sumI:Int→List S79→Int
 |at_,[]=>at_
 |at_,b :: bs=>sumI (at_+stepsI b) bs
def begsI:Int→List S79→List Int
 | _,[]=>[]
 |at_,b :: bs=>at_ :: begsI (at_+stepsI b) bs
def armsI(begs:List Int)(last:Int):List S81→List S105→List S105
 | [],out=>out
 |a :: rest,out=>armsI begs last rest (((out++ [⟨3,a.f0,last⟩])++ [⟨4,a.f1,(out.length:Int)+3⟩])++ [⟨5,rd begs a.f2,0⟩])
def blocksI(begs:List Int):Int→List S79→List S105→List S105
 | _,[],out=>out
 |at_,b :: bs,out=>blocksI begs (at_+stepsI b) bs (armsI begs (at_+stepsI b-1) b.f1 ((if b.f0≥0 then out++ [⟨1,b.f0,0⟩]else out)++ [⟨2,0,0⟩])++ [⟨5,rd begs b.f2,0⟩])
def compB(l:List S79):List S105 × Bool:=if codeB l then(if sumI 0 l>60000 then([],false)else(blocksI (begsI 0 l) 0 l [],true))else([],false)
theorem stepsI_le{b:S79}(h:b.f1.length≤256):2≤stepsI b∧stepsI b≤771:=by
 unfold stepsI;split<;>omega
theorem begsI_length:∀(l:List S79) (a:Int),(begsI a l).length=l.length
 | [],_=>rfl
 |b :: bs,a=>by simp[begsI,begsI_length bs]
def atI(l:List S79)(i:Nat):Int:=sumI 0 (l.take i)
theorem sumI_append:∀(l m:List S79) (a:Int),sumI a (l++m)=sumI (sumI a l) m
 | [],_,_=>rfl
 |b :: bs,m,a=>by simp[sumI,sumI_append bs]
theorem atI_succ(l:List S79)(i:Nat)(h:i<l.length):atI l (i+1)=atI l i+stepsI (rd_T79 l i):=by
 have hr:rd_T79 l i=l[i]:=by simp[rd_T79,h]
 unfold atI;rw[List.take_succ_eq_append_getElem h,sumI_append,hr];rfl
theorem begsI_snoc:∀(l:List S79) (a:Int) (b:S79),begsI a (l++ [b])=begsI a l++ [sumI a l]
 | [],_,_=>rfl
 |c :: bs,a,b=>by simp[begsI,sumI,begsI_snoc bs]
theorem begsI_take(l:List S79)(i:Nat)(h:i<l.length):begsI 0 (l.take (i+1))=begsI 0 (l.take i)++ [atI l i]:=by
 rw[List.take_succ_eq_append_getElem h,begsI_snoc];rfl
theorem begsI_at:∀(l:List S79) (a:Int) (i:Nat) (h:i<l.length),rd (begsI a l) (i:Int)=sumI a (l.take i)
 |b :: bs,a,0,_=>by simp[begsI,rd,sumI]
 | b :: bs,a,i+1,h=>by
   have:=begsI_at bs (a+stepsI b) i (by simpa using h);simp only[begsI,List.take_succ_cons,sumI];rw[←this];unfold rd;rw[Int.toNat_natCast,Int.toNat_natCast,List.getD_cons_succ]
theorem atI_le(l:List S79)(hb:∀i,i<l.length→(rd_T79 l (i:Nat)).f1.length≤256):∀i:Nat,i≤l.length→0≤atI l i∧atI l i≤771*i:=by
 intro i
 induction i with
 |zero=>intro _;simp[atI,sumI]
 | succ i ih=>
   intro h;have:=ih (by omega);have:=stepsI_le (hb i (by omega));rw[atI_succ l i (by omega)];omega
theorem armsI_length(begs:List Int)(last:Int):∀(as_:List S81) (out:List S105),(armsI begs last as_ out).length=out.length+3*as_.length
 | [],out=>by simp[armsI]
 | a :: rest,out=>by
   simp only[armsI];rw[armsI_length begs last rest];simp;omega
theorem blocksI_length(begs:List Int):∀(bs:List S79) (a:Int) (out:List S105),((blocksI begs a bs out).length:Int)=out.length+(sumI a bs-a)
 | [],a,out=>by simp[blocksI,sumI]
 | b :: bs,a,out=>by
   simp only[blocksI,sumI];rw[blocksI_length begs bs];simp only[List.length_append,armsI_length,List.length_cons,List.length_nil];unfold stepsI;split
   · simp only[List.length_append,List.length_cons,List.length_nil]
     omega
   ·omega
theorem compB_few(l:List S79):(compB l).1.length≤60000:=by
 unfold compB;split
 ·split
  ·simp
  ·have:=blocksI_length (begsI 0 l) l 0 []
   simp at this ⊢;omega
 ·simp
theorem code_arms{l:List S79}(h:codeB l=true)(i:Nat)(hi:i<l.length):(rd_T79 l i).f1.length≤256∧(∀a∈(rd_T79 l i).f1,0≤a.f2∧a.f2<l.length)∧0≤(rd_T79 l i).f2∧(rd_T79 l i).f2<l.length:=by
 simp only[codeB,Bool.and_eq_true,decide_eq_true_eq,List.all_eq_true]at h;have hr:rd_T79 l i=l[i]:=by simp[rd_T79,hi]
 have hb:=h.2 _ (List.getElem_mem hi);rw[hr];simp only[blockB,Bool.and_eq_true,decide_eq_true_eq]at hb;refine⟨armsB_few hb.2,?_,by omega,by omega⟩;have key:∀(as_:List S81) (last:Int),armsR l.length last as_=true→∀a∈as_,0≤a.f2∧a.f2<l.length:=by
  intro as_
  induction as_ with
  |nil=>intro _ _ a ha;simp at ha
  | cons x xs ih=>
    intro last h1 a ha;simp only[armsR,Bool.and_eq_true,decide_eq_true_eq]at h1;rcases List.mem_cons.1 ha with rfl|ha
    ·have:=h1.1.2;omega
    ·exact ih _ h1.2 a ha
 exact key _ _ hb.2
theorem rd_arm(as_:List S81)(i:Nat)(h:i<as_.length):rd_T81 as_ (i:Int)=as_[i]:=by simp[rd_T81,h]
theorem spec_Compile_l2(l:List S79)(begs:List Int)(hbl:begs.length=l.length)(b:S79)(ha:∀a∈b.f1,0≤a.f2∧a.f2<l.length)(hf2:0≤b.f2∧b.f2<l.length)(hn:b.f1.length≤256)(at_ last i:Int)(r:List S105 × Bool):
   ∀m,m≤b.f1.length→∀out:List S105,out.length≤1000000+3*m→Ev (fun k=>spec_Compile.l1 k begs at_ (armsI begs last (b.f1.drop m) out++ [⟨5,rd begs b.f2,0⟩]) (wrap64 (i+1)) l) r→Ev (fun k=>spec_Compile.l2 k begs at_ out i last (m:Nat) l b.f0 b.f1 b.f2) r:=by
 refine down b.f1.length _ ?_ ?_
 ·intro out ho h
  rw[ev_succ];simp only[spec_Compile.l2,ev_ite];rw[if_neg (by omega),if_pos hf2.1,if_pos (by omega),if_pos (by omega)];rw[List.drop_length]at h;exact h
 ·intro m hm ih out ho h
  have hb:=ha _ (List.getElem_mem hm);rw[drop_cons b.f1 z81 m hm]at h;have hr:b.f1.getD m z81=b.f1[m]:=by simp[hm]
  rw[hr]at h;simp only[armsI]at h;rw[ev_succ];simp only[spec_Compile.l2,Option.bind_some,ev_ite,rd_arm b.f1 m hm];rw[if_pos (by omega),if_pos (by omega),if_pos (by omega),if_pos (by simp;omega),if_pos hb.1,if_pos (by omega),if_pos (by simp;omega),wrap_succ hm (by omega),wrap_id (x:=(out.length:Int)+3) (by omega) (by omega)];exact ih _ (by simp;omega) h
theorem spec_Compile_l1(l:List S79)(hc:codeB l=true):∀i,i≤l.length→∀out:List S105,out.length≤771*i→Ev (fun k=>spec_Compile.l1 k (begsI 0 l) (atI l l.length) out (i:Nat) l) (blocksI (begsI 0 l) (atI l i) (l.drop i) out,true):=by
  have hsz:=hc;simp only[codeB,Bool.and_eq_true,decide_eq_true_eq]at hsz;have hl1:=hsz.1.2;refine down l.length _ ?_ ?_
  ·intro out _
   rw[ev_succ];simp only[spec_Compile.l1,ev_ite,ev_some];rw[if_neg (by omega),List.drop_length];rfl
  · intro i hi ih out ho
    have hca:=code_arms hc i hi;have hat:=atI_le l (fun j hj=>(code_arms hc j hj).1) i (by omega);have hat1:=atI_le l (fun j hj=>(code_arms hc j hj).1) (i+1) (by omega);have hatl:=atI_le l (fun j hj=>(code_arms hc j hj).1) l.length (by omega);have hst:=stepsI_le hca.1;rw[ev_succ,drop_cons l z79 i hi];have hr:l.getD i z79=rd_T79 l i:=by simp[rd_T79]
    rw[hr];have hsucc:=atI_succ l i hi;have t3:∀o2:List S105,o2.length≤771*i+1→o2.length+2+3*(rd_T79 l i).f1.length≤771*(i+1)→Ev (fun k=>spec_Compile.j3 k (begsI 0 l) (atI l l.length) o2 i (atI l (i+1)-1) l (rd_T79 l i).f0 (rd_T79 l i).f1 (rd_T79 l i).f2) (blocksI (begsI 0 l) (atI l i+stepsI (rd_T79 l i)) (l.drop (i+1)) (armsI (begsI 0 l) (atI l i+stepsI (rd_T79 l i)-1) (rd_T79 l i).f1 (o2++ [⟨2,0,0⟩])++ [⟨5,rd (begsI 0 l) (rd_T79 l i).f2,0⟩]),true):=by
     intro o2 h1 h2;rw[ev_succ];simp only[spec_Compile.j3,ev_ite];rw[if_pos (by omega),←hsucc];refine spec_Compile_l2 l (begsI 0 l) (begsI_length l 0) (rd_T79 l i) hca.2.1 hca.2.2 hca.1 _ _ _ _ 0 (by omega) _ (by simp;omega) ?_;rw[wrap_succ hi (by omega),List.drop_zero];exact ih _ (by simp only[List.length_append,armsI_length,List.length_cons,List.length_nil];omega)
    have t2:Ev (fun k=>spec_Compile.j2 k (begsI 0 l) (atI l l.length) out i (atI l (i+1)-1) l (rd_T79 l i).f0 (rd_T79 l i).f1 (rd_T79 l i).f2) (blocksI (begsI 0 l) (atI l i) (rd_T79 l i :: l.drop (i+1)) out,true):=by
      rw[ev_succ];simp only[spec_Compile.j2,ev_ite,blocksI];have hx:stepsI (rd_T79 l i)=2+3*((rd_T79 l i).f1.length:Int)+(if(rd_T79 l i).f0≥0 then 1 else 0):=rfl;have h256:=hca.1;by_cases h0:(rd_T79 l i).f0≥0
      · rw[if_pos h0,if_pos h0,if_pos (by omega)]
        exact t3 _ (by simp;omega) (by simp;omega)
      · rw[if_neg h0,if_neg h0]
        exact t3 _ (by omega) (by omega)
    simp only[spec_Compile.l1,ev_ite];rw[if_pos (by omega),if_pos (by omega),wrap_succ hi (by omega)];by_cases hi1:i+1<l.length
    ·have hbg:rd (begsI 0 l) ((i+1:Nat):Int)=atI l (i+1):=begsI_at l 0 (i+1) hi1
     rw[if_pos (by rw[begsI_length];omega),if_pos (by omega),hbg,wrap_id (x:=atI l (i+1)-1) (by omega) (by omega)];exact t2
    ·have e:atI l (i+1)=atI l l.length:=by rw[show i+1=l.length by omega]
     rw[if_neg (by rw[begsI_length];omega),wrap_id (x:=atI l l.length-1) (by omega) (by omega)];rw[e]at t2;exact t2
theorem spec_Compile_ev(l:List S79)(hl:l.length≤1048576):Ev (fun k=>spec_Compile.f k l) (compB l):=by
 unfold spec_Compile.f compB;simp only[Option.bind_some];rw[ev_bind (spec_CodeOk_ev l hl),ev_ite];cases hc:codeB l
 ·exact ev_some.2 rfl
 have hsz:=hc;simp only[codeB,Bool.and_eq_true,decide_eq_true_eq]at hsz;have hl1:=hsz.1.2;simp only[if_true];have hle:=atI_le l (fun j hj=>(code_arms hc j hj).1);have e:atI l l.length=sumI 0 l:=by unfold atI;rw[List.take_length]
 have key:=down l.length (fun i=>Ev (fun k=>spec_Compile.l0 k [] (begsI 0 (l.take i)) (atI l i) (i:Nat) l) (if sumI 0 l>60000 then([],false)else(blocksI (begsI 0 l) 0 l [],true))) ?_ ?_ 0 (by omega)
 ·exact key
 ·rw[ev_succ]
  simp only[spec_Compile.l0,ev_ite,ev_some];rw[if_neg (by omega),List.take_length];by_cases h6:sumI 0 l>60000
  ·rw[e,if_pos h6,if_pos h6]
  ·rw[if_neg (by rw[e];exact h6),if_neg h6]
   exact spec_Compile_l1 l hc 0 (by omega) [] (by simp)
 ·intro i hi ih
  rw[ev_succ];have hca:=code_arms hc i hi;have hst:=stepsI_le hca.1;have hat:=hle i (by omega);have h256:=hca.1;have hx:stepsI (rd_T79 l i)=2+3*((rd_T79 l i).f1.length:Int)+(if(rd_T79 l i).f0≥0 then 1 else 0):=rfl;have hs:=atI_succ l i hi;simp only[spec_Compile.l0,ev_ite,Option.bind_some,begsI_length,List.length_take];rw[if_pos (by omega),if_pos (by omega),if_pos (by omega)];rw[wrap_id (x:=3*((rd_T79 l i).f1.length:Int)) (by omega) (by omega),wrap_id (x:=atI l i+2) (by omega) (by omega),wrap_id (x:=atI l i+2+3*((rd_T79 l i).f1.length:Int)) (by omega) (by omega),wrap_succ hi (by omega)];rw[begsI_take l i hi]at ih;by_cases h0:(rd_T79 l i).f0≥0
  ·rw[if_pos h0]at hx
   rw[if_pos h0,wrap_id (x:=atI l i+2+3*((rd_T79 l i).f1.length:Int)+1) (by omega) (by omega),show atI l i+2+3*((rd_T79 l i).f1.length:Int)+1=atI l (i+1) by omega];exact ih
  ·rw[if_neg h0]at hx
   rw[if_neg h0,show atI l i+2+3*((rd_T79 l i).f1.length:Int)=atI l (i+1) by omega];exact ih
theorem near_any{b:List Int}{p:Int}(h:Dr b p)(lo hi:Int)(hl: -1000≤lo)(hh:hi≤1000000000):∃v p',Ev (fun k=>spec_l1Rd_near.f k b p lo hi) (v,p')∧Dr b p':=by
 unfold spec_l1Rd_near.f;obtain⟨v,q,e,_,_,hq⟩:=below_ok h 8;rw[e];simp only[Option.bind_some,ev_ite];by_cases h0:v=0
 ·exact⟨_,_,by rw[if_pos h0];exact ev_some.2 rfl,hq⟩
 by_cases h1:v=1
 ·exact⟨_,_,by rw[if_neg h0,if_pos h1];exact ev_some.2 rfl,hq⟩
 by_cases h2:hi<lo
 ·exact⟨_,_,by rw[if_neg h0,if_neg h1,if_pos h2];exact ev_some.2 rfl,hq⟩
 obtain⟨x,q2,e2,hq2⟩:=word_ok 8 0 0 q hq (by omega) (by omega);have e3:Ev (fun k=>spec_l1Rd_word.f k b q) (x,q2):=e2;have hw:IntKind.u64.wrap (hi-lo+1)=hi-lo+1:=by
  rw[IntKind.wrap_u64];omega
 refine⟨wrap64 (lo+wrap64 (Int.tmod (x / 2) (hi-lo+1))),q2,?_,hq2⟩;rw[if_neg h0,if_neg h1,if_neg h2,ev_bind e3,wrap_id (x:=hi-lo) (by omega) (by omega),wrap_id (x:=hi-lo+1) (by omega) (by omega),hw];simp only[ev_ite];rw[if_neg (by omega)];exact ev_some.2 rfl
theorem off_any{b:List Int}{p:Int}(h:Dr b p)(lo hi:Int)(hl: -1000≤lo)(hh:hi≤1000000000):∃v p',Ev (fun k=>spec_l1Rd_off.f k b p lo hi) (v,p')∧Dr b p':=by
 unfold spec_l1Rd_off.f;obtain⟨o,q,e,hq⟩:=once_ok h 24;rw[e];simp only[Option.bind_some,ev_ite];cases o
 ·obtain⟨v,q2,e2,hq2⟩:=near_any hq lo hi hl hh
  refine⟨v,q2,?_,hq2⟩;rw[if_neg (by simp),ev_bind e2];exact ev_some.2 rfl
 ·obtain⟨v,q2,e2,h0,h1,hq2⟩:=below_ok hq 4
  have:=h1 (by omega);refine⟨rd [wrap64 (lo-1),wrap64 (hi+1), -9223372036854775808,9223372036854775807] v,q2,?_,hq2⟩;rw[if_pos rfl,e2];simp only[Option.bind_some,ev_ite];rw[if_pos h0,if_pos (by simp;omega)];exact ev_some.2 rfl
def CodeD(b:List Int)(g:Nat→Option (List S79 × Int)):Prop:=∃cs q,Ev g (cs,q)∧Dr b q∧1≤cs.length∧cs.length≤60∧∀x∈cs,x.f1.length≤257
theorem set_all{α:Type}{P:α→Prop}{l:List α}(h:∀x∈l,P x)(i:Nat)(v:α)(hv:P v):∀x∈l.set i v,P x:=by
 intro x hx;rcases List.mem_or_eq_of_mem_set hx with hx|rfl
 ·exact h x hx
 ·exact hv
theorem armsAt_le{cs:List S79}(s:Int)(h:∀x∈cs,x.f1.length≤256):(armsAt cs s).length≤256:=by
 unfold armsAt;rw[List.getD_eq_getElem?_getD];cases hi:cs[s.toNat]? with
 |none=>simp[z79]
 |some x=>exact h x (List.mem_of_getElem? hi)
theorem oddCode_ok{b:List Int}{p:Int}(hp:Dr b p)(cs:List S79)(s o:Int)(h1:1≤cs.length)(h6:cs.length≤60)(ha:∀x∈cs,x.f1.length≤256):CodeD b (fun k=>oddCode k b p cs s o):=by
 have hA:=armsAt_le s ha;have hw:wrap64 ((cs.length:Int)-1)=(cs.length:Int)-1:=wrap_id (by omega) (by omega);have ha2:∀x∈cs,x.f1.length≤257:=fun x hx=>by have:=ha x hx;omega
 have hget:(cs.getD s.toNat z79).f1.length≤257:=by have:(cs.getD s.toNat z79).f1.length≤256:=hA;omega
 have fin:∀ {g:Nat→Option (List S79 × Int)} (v:S79) (q:Int),Ev g (cs.set s.toNat v,q)→Dr b q→v.f1.length≤257→CodeD b g:=fun v q e hq hv=>⟨_,q,e,hq,by rw[List.length_set];exact h1,by rw[List.length_set];exact h6,set_all ha2 _ v hv⟩
 unfold oddCode;by_cases c0:o=0
 ·obtain⟨v,q,e,hq⟩:=off_any hp 0 (wrap64 ((cs.length:Int)-1)) (by omega) (by omega)
  refine fin ⟨(cs.getD s.toNat z79).f0,(cs.getD s.toNat z79).f1,v⟩ q ?_ hq hget;simp only[if_pos c0];rw[ev_bind e];exact ev_some.2 rfl
 by_cases c1:o=1
 ·obtain⟨v,q,e,hq⟩:=off_any hp (-1) 39 (by omega) (by omega)
  refine fin ⟨v,(cs.getD s.toNat z79).f1,(cs.getD s.toNat z79).f2⟩ q ?_ hq hget;simp only[if_neg c0,if_pos c1];rw[ev_bind e];exact ev_some.2 rfl
 by_cases c2:o=2
 ·obtain⟨v1,q1,e1,hq1⟩:=off_any hp 0 255 (by omega) (by omega)
  obtain⟨v2,q2,e2,hq2⟩:=off_any hq1 0 255 (by omega) (by omega);obtain⟨v3,q3,e3,_,_,hq3⟩:=below_ok hq2 cs.length;refine fin ⟨(cs.getD s.toNat z79).f0,armsAt cs s++ [⟨v1,v2,v3⟩],(cs.getD s.toNat z79).f2⟩ q3 ?_ hq3 (by simp;omega);simp only[if_neg c0,if_neg c1,if_pos c2];rw[ev_bind e1,ev_bind e2];simp only[e3,Option.bind_some];refine ev_if (fun _=>?_) (fun h=>by omega);exact ev_some.2 rfl
 by_cases c3:o=3
 ·simp only[if_neg c0,if_neg c1,if_neg c2,if_pos c3]
  by_cases c4:0<(armsAt cs s).length
  ·obtain⟨v,q,e,hq⟩:=off_any hp 0 (wrap64 ((cs.length:Int)-1)) (by omega) (by omega)
   refine fin ⟨(cs.getD s.toNat z79).f0,(armsAt cs s).set 0 ⟨((armsAt cs s).getD 0 z81).f0,((armsAt cs s).getD 0 z81).f1,v⟩,(cs.getD s.toNat z79).f2⟩ q ?_ hq (by rw[List.length_set];omega);simp only[if_pos c4];rw[ev_bind e];exact ev_some.2 rfl
  ·simp only[if_neg c4]
   exact⟨cs,p,ev_some.2 rfl,hp,h1,h6,ha2⟩
 simp only[if_neg c0,if_neg c1,if_neg c2,if_neg c3];exact⟨cs,p,ev_some.2 rfl,hp,h1,h6,ha2⟩
theorem code_ok{b:List Int}{p:Int}(hp:Dr b p):CodeD b (fun k=>codeF k b p):=by
 obtain⟨d0,d1,d2,q,e,hq,hd,h6⟩:=dfa_ok hp;obtain⟨m,hD⟩:=dfaB_true hd;have hg:=spec_GenCode_ev d0 d1 d2 (by rw[hD.bytes];omega);have hl:(genC d0 d1 d2).length=d1.length:=by
  unfold genC;rw[if_pos hd,codeG_length]
 have hr:=hD.rows;obtain⟨s,q2,e2,s0,s1,hq2⟩:=below_ok hq (genC d0 d1 d2).length;have s1:=s1 (by omega);obtain⟨o,q3,e3,_,_,hq3⟩:=below_ok hq2 24;obtain⟨cs,q4,e4,h⟩:=oddCode_ok hq3 (genC d0 d1 d2) s o (by omega) (by omega) (genC_arms d0 d1 d2);refine⟨cs,q4,?_,h⟩;unfold codeF;rw[ev_bind e,ev_bind hg];simp only[e2,Option.bind_some];refine ev_if (fun _=>?_) (fun h=>absurd ⟨s0,s1⟩ h);simp only[e3,Option.bind_some];exact e4
theorem strOfNums_size(xs:List Int):(strOfNums xs).size=xs.length:=by
 unfold strOfNums;simp[ByteArray.size]
theorem text_ok{b:List Int}{p:Int}(hp:Dr b p)(most:Int)(hm:0≤most∧most≤1000):∃s q,Ev (fun k=>spec_l1Rd_text.f k b p most) (s,q)∧Dr b q∧(s.size:Int)≤most:=by
 have hl:b.length≤1048576:=hp.2.2.2;have hmn:0≤mn most (wrap64 (2+wrap64 ((b.length:Int) / 3)))∧mn most (wrap64 (2+wrap64 ((b.length:Int) / 3)))≤most:=by
  rw[wrap_id (x:=(b.length:Int) / 3) (by omega) (by omega),wrap_id (by omega) (by omega)];unfold mn;split<;>omega
 obtain⟨v,q,e,v0,v1,hq⟩:=below_ok hp (wrap64 (mn most (wrap64 (2+wrap64 ((b.length:Int) / 3)))+1));rw[wrap_id (x:=mn most (wrap64 (2+wrap64 ((b.length:Int) / 3)))+1) (by omega) (by omega)]at v1;have v1:=v1 (by omega);have key:∀(n:Nat) (xs:List Int) (p:Int),(n:Int)+xs.length≤most→Dr b p→∃s q,Ev (fun k=>spec_l1Rd_text.l0 k xs (n:Int) b p) (s,q)∧Dr b q∧(s.size:Int)≤most:=by
  intro n
  induction n with
  | zero=>
    intro xs p hx hp;refine⟨strOfNums xs,p,?_,hp,by rw[strOfNums_size];omega⟩;rw[ev_succ];simp only[spec_l1Rd_text.l0,ev_ite];rw[if_neg (by omega)];exact ev_some.2 rfl
  | succ n ih=>
    intro xs p hx hp;obtain⟨a,q,e,a0,a1,hq⟩:=below_ok hp 21;have a1:=a1 (by omega);obtain⟨s,q2,e2,h⟩:=ih (xs++ [bt (⟨#[97,97,97,98,98,98,99,99,97,98,99,10,120,121,122,57,45,122,65,0,255]⟩:ByteArray) a]) q (by rw[List.length_append];simp;omega) hq;refine⟨s,q2,?_,h⟩;rw[ev_succ];simp only[spec_l1Rd_text.l0,ev_ite,e,Option.bind_some];rw[if_pos (by omega),if_pos a0,if_pos a1,if_pos (by omega),wrap_id (x:=((n+1:Nat):Int)-1) (by omega) (by omega),show((n+1:Nat):Int)-1=(n:Int) by omega];exact e2
 obtain⟨n,rfl⟩:=Int.eq_ofNat_of_zero_le v0;obtain⟨s,q2,e2,h⟩:=key n [] q (by simp;omega) hq;refine⟨s,q2,?_,h⟩;unfold spec_l1Rd_text.f;simp only[e,Option.bind_some];exact e2
theorem Dr.of{l:List Int}(h:∀x∈l,0≤x∧x≤255)(hl:l.length≤1048576):Dr l 0:=⟨h,by omega,by omega,hl⟩
theorem compB_pos{l:List S79}(h:(compB l).2=true):1≤(compB l).1.length:=by
  unfold compB at h ⊢;split at h
  · rename_i hc
    rw[if_pos hc];split at h
    ·cases h
    · rename_i hs
      rw [if_neg hs];have h1:=blocksI_length (begsI 0 l) l 0 [];have hc2:=hc;simp only[codeB,Bool.and_eq_true,decide_eq_true_eq]at hc2;have h2:=atI_le l (fun i hi=>(code_arms hc i hi).1) 1 (by omega);have h3:atI l 1=atI l 0+stepsI (rd_T79 l ((0:Nat):Int)):=atI_succ l 0 (by omega);have h4:=stepsI_le (code_arms hc 0 (by omega)).1;have h5:∀(m:List S79) (a:Int),a≤sumI a m:=by
        intro m
        induction m with
        |nil=>intro a;exact Int.le_refl _
        | cons x m ih=>
          intro a;have:=ih (a+stepsI x);have:0≤stepsI x:=by unfold stepsI;split<;>omega
          simp only[sumI];omega
      have h6:atI l 1≤sumI 0 l:=by
        unfold atI
        conv=>rhs;rw[←List.take_append_drop 1 l,sumI_append]
        exact h5 _ _
      have h7:atI l 0=0:=rfl;simp at h1;dsimp only;omega
  ·cases h
theorem machine_ok{b:List Int}{p:Int}(hp:Dr b p):∃m q,Ev (fun k=>spec_l1Rd_machine.f k b p) (m,q)∧Dr b q∧m.length≤60001:=by
 obtain⟨cs,q,e,hq,h1,h6,_⟩:=code_ok hp;have e:Ev (fun k=>spec_l1Rd_code.f k b p) (cs,q):=e;have hc:=spec_Compile_ev cs (by omega);have hf:=compB_few cs;unfold spec_l1Rd_machine.f;cases hb:(compB cs).2
 ·refine⟨[⟨2,0,0⟩,⟨5,0,0⟩],q,?_,hq,by simp⟩
  rw[ev_bind e,ev_bind hc,hb];simp only[Bool.false_eq_true,if_false];exact ev_some.2 rfl
 have hp1:=compB_pos hb;obtain⟨i,q2,e2,i0,i1,hq2⟩:=below_ok hq ((compB cs).1.length:Int);have i1:=i1 (by omega);obtain⟨o,q3,e3,_,_,hq3⟩:=below_ok hq2 24;have hw:wrap64 (((compB cs).1.length:Int)-1)=((compB cs).1.length:Int)-1:=wrap_id (by omega) (by omega);by_cases c0:o=0
 ·obtain⟨v,q4,e4,hq4⟩:=off_any hq3 1 5 (by omega) (by omega)
  refine⟨(compB cs).1.set i.toNat ⟨v,(rd_T105 (compB cs).1 i).f1,(rd_T105 (compB cs).1 i).f2⟩,q4,?_,hq4,?_⟩
  ·rw[ev_bind e,ev_bind hc]
   simp only[hb,if_true,e2,e3,Option.bind_some,if_pos c0];rw[ev_bind e4,ev_ite,if_pos i0,ev_ite,if_pos i1];exact ev_some.2 rfl
  ·rw[List.length_set];omega
 by_cases c1:o=1
 ·obtain⟨v,q4,e4,hq4⟩:=off_any hq3 0 255 (by omega) (by omega)
  refine⟨(compB cs).1.set i.toNat ⟨(rd_T105 (compB cs).1 i).f0,v,(rd_T105 (compB cs).1 i).f2⟩,q4,?_,hq4,?_⟩
  ·rw[ev_bind e,ev_bind hc]
   simp only[hb,if_true,e2,e3,Option.bind_some,if_neg c0,if_pos c1];rw[ev_bind e4,ev_ite,if_pos i0,ev_ite,if_pos i1];exact ev_some.2 rfl
  ·rw[List.length_set];omega
 by_cases c2:o=2
 ·obtain⟨v,q4,e4,hq4⟩:=off_any hq3 0 (wrap64 (((compB cs).1.length:Int)-1)) (by omega) (by omega)
  refine⟨(compB cs).1.set i.toNat ⟨(rd_T105 (compB cs).1 i).f0,(rd_T105 (compB cs).1 i).f1,v⟩,q4,?_,hq4,?_⟩
  ·rw[ev_bind e,ev_bind hc]
   simp only[hb,if_true,e2,e3,Option.bind_some,if_neg c0,if_neg c1,if_pos c2];rw[ev_bind e4,ev_ite,if_pos i0,ev_ite,if_pos i1];exact ev_some.2 rfl
  ·rw[List.length_set];omega
 by_cases c3:o=3
 ·refine⟨(compB cs).1++ [⟨2,0,0⟩],q3,?_,hq3,?_⟩
  ·rw[ev_bind e,ev_bind hc]
   simp only[hb,if_true,e2,e3,Option.bind_some,if_neg c0,if_neg c1,if_neg c2,if_pos c3];rw[ev_ite,if_pos (by omega)];exact ev_some.2 rfl
  ·simp;omega
 refine⟨(compB cs).1,q3,?_,hq3,?_⟩
 ·rw[ev_bind e,ev_bind hc]
  simp only[hb,if_true,e2,e3,Option.bind_some,if_neg c0,if_neg c1,if_neg c2,if_neg c3];exact ev_some.2 rfl
 ·omega
theorem DrawRunMachine_ok{l:List Int}(h:∀x∈l,0≤x∧x≤255)(hl:l.length≤1048576):∃m s at_ most,Ev (fun k=>spec_DrawRunMachine.f k l) (m,s,at_,most)∧m.length≤60001∧s.size≤12:=by
 obtain⟨m,q,e,hq,hm⟩:=machine_ok (Dr.of h hl);obtain⟨s,q2,e2,hq2,hs⟩:=text_ok hq 12 (by omega);obtain⟨o,q3,e3,hq3⟩:=once_ok hq2 2;have last:∀q,Dr l q→∃r:Int × Int,Ev (fun k=>(some (([20,400]:List Int):List Int)).bind fun y114=>((spec_l1Rd_below.f l q 2).bind fun bt117=>(if 0≤bt117.1 then(if bt117.1<(y114.length:Int)then spec_l1Rd_off.f k l bt117.2 0 (rd y114 bt117.1)else none)else none))) r:=by
  intro q hq;obtain⟨v,q4,e4,v0,v1,hq4⟩:=below_ok hq 2;have v1:=v1 (by omega);have hr:rd [20,400] v≤1000000000:=by
   have:v=0∨v=1:=by omega
   rcases this with rfl|rfl<;>decide
  obtain⟨w,q5,e5,_⟩:=off_any hq4 0 (rd [20,400] v) (by omega) hr;refine⟨(w,q5),?_⟩;simp only[Option.bind_some,e4,ev_ite];rw[if_pos v0,if_pos (by simp;omega)];exact e5
 have conv:∀(q a:Int) (r:Int × Int),Ev (fun k=>(some (([20,400]:List Int):List Int)).bind fun y114=>((spec_l1Rd_below.f l q 2).bind fun bt117=>(if 0≤bt117.1 then(if bt117.1<(y114.length:Int)then spec_l1Rd_off.f k l bt117.2 0 (rd y114 bt117.1)else none)else none))) r→Dr l q→Ev (fun k=>(some (([20,400]:List Int):List Int)).bind fun y114=>((spec_l1Rd_below.f l q 2).bind fun bt117=>(if 0≤bt117.1 then(if bt117.1<(y114.length:Int)then((spec_l1Rd_off.f k l bt117.2 0 (rd y114 bt117.1)).bind fun bt120=>(some (m,s,a,bt120.1)))else(none))else(none)))) (m,s,a,r.1):=by
  intro q a r h hq;obtain⟨v,q4,e4,v0,v1,hq4⟩:=below_ok hq 2;have v1:=v1 (by omega);simp only[Option.bind_some,e4,ev_ite]at h ⊢;rw[if_pos v0,if_pos (by simp;omega)]at h ⊢;rw[ev_bind h];exact ev_some.2 rfl
 unfold spec_DrawRunMachine.f spec_l1Open.f;cases o
 ·obtain⟨r,hr⟩:=last q3 hq3
  refine⟨m,s,0,r.1,?_,hm,by omega⟩;simp only[Option.bind_some];rw[ev_bind e,ev_bind e2];simp only[e3,Option.bind_some,Bool.false_eq_true,if_false];exact conv q3 0 r hr hq3
 ·obtain⟨a,q4,e4,hq4⟩:=off_any hq3 0 (s.size:Int) (by omega) (by omega)
  obtain⟨r,hr⟩:=last q4 hq4;refine⟨m,s,a,r.1,?_,hm,by omega⟩;simp only[Option.bind_some];rw[ev_bind e,ev_bind e2];simp only[e3,Option.bind_some,if_true];rw[ev_bind e4];exact conv q4 a r hr hq4
end Go.Proofs.Ytlecpdpdcocibaa.P
namespace Go.Proofs.Ytlecpdpdcocibaa.P
open Go.RowKit Go.Proofs.YtlecpdpdcocibaaW.PrintWords Go.Proofs.YtlecpdpdcocibaaW.PrintLast Go.Proofs.YtlecpdpdcocibaaEv
set_option linter.unusedVariables false
set_option linter.unusedSimpArgs false
def stepB(n:Int)(s:S105):Bool:=
 if s.f0=1 then decide (0≤s.f1∧s.f1≤39)&&decide (s.f2=0)
 else if s.f0=2 then decide (s.f1=0)&&decide (s.f2=0)
 else if s.f0=3∨s.f0=4 then decide (0≤s.f1∧s.f1≤255)&&decide (0≤s.f2∧s.f2≤n-1)
 else if s.f0=5 then decide (0≤s.f1∧s.f1≤n-1)&&decide (s.f2=0)
 else false
theorem impl_stepOk_ev(s:S105)(n:Int)(h0:0≤n)(h1:n≤60000):Ev (fun k=>impl_stepOk.f k s.f0 s.f1 s.f2 n) (stepB n s):=by
 have hw:wrap64 (n-1)=n-1:=wrap_id (by omega) (by omega);have hj:∀b,Ev (fun k=>impl_stepOk.j0 k n s.f0 b s.f0 s.f1 s.f2) (if b then decide (0≤s.f1∧s.f1≤255)&&decide (0≤s.f2∧s.f2≤n-1)else if s.f0=5 then decide (0≤s.f1∧s.f1≤n-1)&&decide (s.f2=0)else false):=by
  intro b;rw[ev_succ];simp only[impl_stepOk.j0,impl_within_eq,Option.bind_some,ev_ite,ev_some,hw];cases b<;>simp<;>grind
 unfold impl_stepOk.f stepB;simp only[impl_within_eq,Option.bind_some,ev_ite,ev_some];split
 ·grind
 ·split
  ·grind
  ·split
   ·exact ev_congr (hj _) (by grind)
   ·exact ev_congr (hj _) (by grind)
def machineB(l:List S105):Bool:=
 decide (1≤l.length)&&decide (l.length≤60000)&&decide ((rd_T105 l (l.length-1)).f0=5)&&l.all (stepB l.length)
theorem impl_MachineOk_ev(l:List S105)(hl:l.length≤1048576):Ev (fun k=>impl_MachineOk.f k l) (machineB l):=by
 have hloop:∀i,i≤l.length→l.length≤60000→Ev (fun k=>impl_MachineOk.l0 k l.length l l.length (i:Nat)) ((l.drop i).all (stepB l.length)):=by
  intro i hi h6;refine ev_loop l.length (fun k i=>impl_MachineOk.l0 k l.length l l.length (i:Nat)) (fun i=>(l.drop i).all (stepB l.length)) ?_ ?_ i hi
  ·rw[ev_succ]
   simp[impl_MachineOk.l0,ev_some]
  ·intro i hi ih
   rw[ev_succ];simp only[impl_MachineOk.l0,ev_ite];rw[if_pos (by omega),if_pos (by omega),if_pos (by omega),ev_bind (impl_stepOk_ev (rd_T105 l i) l.length (by omega) (by omega)),wrap_succ hi (by omega),all_drop l z105 _ i hi];simp only[ev_ite,ev_some];have:l.getD i z105=rd_T105 l i:=by simp[rd_T105]
   rw[this];cases h:stepB l.length (rd_T105 l i)
   ·simp
   ·simpa using ih
 have hj:∀b,l.length≤60000→Ev (fun k=>impl_MachineOk.j0 k l l.length b) (!b&&l.all (stepB l.length)):=by
  intro b h6;rw[ev_succ];simp only[impl_MachineOk.j0,ev_ite,ev_some];have:=hloop 0 (by omega) h6;cases b<;>simp at this ⊢;exact this
 have hj':Ev (fun k=>impl_MachineOk.j0 k l l.length true) false:=by
  rw[ev_succ];simp[impl_MachineOk.j0,ev_some]
 unfold impl_MachineOk.f machineB;simp only[impl_MOp.f,impl_within_eq,Option.bind_some,ev_ite];by_cases h1:1≤l.length
 ·rw[wrap_id (by omega) (by omega)]
  by_cases h2:l.length≤60000
  ·rw[if_pos (by simp;omega),if_pos (by omega),if_pos (by omega)]
   refine ev_congr (hj _ h2) ?_;simp[h1,h2]
   grind
  ·rw[if_neg (by simp;omega)]
   exact ev_congr hj' (by simp[h2])
 ·rw[if_neg (by simp;omega)]
  exact ev_congr hj' (by simp[h1])
theorem spec_MachineOk_ev(l:List S105)(hl:l.length≤1048576):Ev (fun k=>spec_MachineOk.f k l) (machineB l):=by
  have hloop:∀i,i≤l.length→l.length≤60000→Ev (fun k=>spec_MachineOk.l0 k l l.length (i:Nat)) ((l.drop i).all (stepB l.length)):=by
    intro i hi h6;refine ev_loop l.length (fun k i=>spec_MachineOk.l0 k l l.length (i:Nat)) (fun i=>(l.drop i).all (stepB l.length)) ?_ ?_ i hi
    ·rw[ev_succ]
     simp[spec_MachineOk.l0,ev_some]
    · intro i hi ih
      have hn:wrap64 ((l.length:Int)-1)=(l.length:Int)-1:=wrap_id (by omega) (by omega);have hj:∀b,Ev (fun k=>spec_MachineOk.j2 k l l.length i false (rd_T105 l i).f0 b (rd_T105 l i).f0 (rd_T105 l i).f1 (rd_T105 l i).f2)
          ((if b then decide (0≤(rd_T105 l i).f1∧(rd_T105 l i).f1≤255)&&decide (0≤(rd_T105 l i).f2∧(rd_T105 l i).f2≤l.length-1)
            else if(rd_T105 l i).f0=5 then decide (0≤(rd_T105 l i).f1∧(rd_T105 l i).f1≤l.length-1)&&decide ((rd_T105 l i).f2=0)else false)&&(l.drop (i+1)).all (stepB l.length)):=by
        intro b;rw[ev_succ];simp only[spec_MachineOk.j2,spec_l1In_eq,Option.bind_some,ev_ite,ev_some,hn,wrap_succ hi (by omega)];generalize(l.drop (i+1)).all (stepB l.length)=T at *;generalize(fun k=>spec_MachineOk.l0 k l (l.length:Int) ((i+1:Nat):Int))=G at *;cases b<;>grind
      rw[ev_succ];simp only[spec_MachineOk.l0,spec_l1In_eq,Option.bind_some,ev_ite,ev_some,wrap_succ hi (by omega)];rw[if_pos (by omega),if_pos (by omega),if_pos (by omega),all_drop l z105 _ i hi];have:l.getD i z105=rd_T105 l i:=by simp[rd_T105]
      rw[this];generalize(l.drop (i+1)).all (stepB l.length)=T at *;generalize(fun k=>spec_MachineOk.l0 k l (l.length:Int) ((i+1:Nat):Int))=G at *;unfold stepB;generalize rd_T105 l i=s at *;split
      ·grind
      · split
        ·grind
        ·split
         ·exact ev_congr (hj _) (by grind)
         ·exact ev_congr (hj _) (by grind)
    done
  have hj:∀b,(b=false→l.length≤60000)→Ev (fun k=>spec_MachineOk.j0 k l l.length b) (!b&&l.all (stepB l.length)):=by
   intro b h6;rw[ev_succ];simp only[spec_MachineOk.j0,ev_ite,ev_some];cases b
   ·have:=hloop 0 (by omega) (h6 rfl)
    simpa using this
   ·simp
  unfold spec_MachineOk.f machineB;simp only[ev_ite];by_cases h1:1≤l.length
  ·rw[if_neg (by omega),wrap_id (by omega) (by omega)]
   by_cases h2:l.length≤60000
   ·rw[if_neg (by omega),if_pos (by omega),if_pos (by omega)]
    exact ev_congr (hj _ (fun _=>h2)) (by simp[h1,h2];grind)
   ·rw[if_pos (by omega)]
    exact ev_congr (hj _ (by simp)) (by simp[h2])
  ·rw[if_pos (by omega)]
   exact ev_congr (hj _ (by simp)) (by simp[h1])
def runR(l:List S105)(text:ByteArray)(at_:Int):Nat→Int→Int→Int→Int→Int→Int × Int × Int
  |0,e,r,_,_,_=>(e,r,2)
  | d+1,e,r,hand,place,next=>
    let s:=rd_T105 l next
    if s.f0=1 then(if place=at_ then runR l text at_ d e r hand place (next+1)else runR l text at_ d place s.f1 hand place (next+1))
    else if s.f0=2 then(if place=text.size then(e,r,0)else runR l text at_ d e r (bt text place) (place+1) (next+1))
    else if s.f0=3 then(if hand<s.f1 then runR l text at_ d e r hand place s.f2 else runR l text at_ d e r hand place (next+1))
    else if s.f0=4 then(if hand>s.f1 then runR l text at_ d e r hand place s.f2 else runR l text at_ d e r hand place (next+1))
    else runR l text at_ d e r hand place s.f1
def runB(l:List S105)(text:ByteArray)(at_ most:Int):Int × Int × Int:=
 if machineB l=true∧(text.size:Int)≤20000∧0≤at_∧at_≤text.size∧0≤most∧most≤1000000 then runR l text at_ most.toNat (-1) (-1) 0 at_ 0 else(-1, -1,1)
theorem machine_steps{l:List S105}(h:machineB l=true):1≤l.length∧l.length≤60000∧(rd_T105 l (l.length-1)).f0=5∧∀n:Int,0≤n→n<l.length→stepB l.length (rd_T105 l n)=true:=by
 simp only[machineB,Bool.and_eq_true,decide_eq_true_eq,List.all_eq_true]at h;obtain⟨⟨⟨h1,h2⟩,h3⟩,h4⟩:=h;refine⟨h1,h2,h3,fun n h0 hn=>h4 _ ?_⟩;unfold rd_T105;rw[List.getD_eq_getElem?_getD,List.getElem?_eq_getElem (by omega)];exact List.getElem_mem _
theorem machine_next{l:List S105}(h:machineB l=true){n:Int}(h0:0≤n)(hn:n<l.length):
   ((rd_T105 l n).f0=1∧n+1<l.length)∨((rd_T105 l n).f0=2∧n+1<l.length)∨
   (((rd_T105 l n).f0=3∨(rd_T105 l n).f0=4)∧n+1<l.length∧0≤(rd_T105 l n).f2∧(rd_T105 l n).f2<l.length)∨
   ((rd_T105 l n).f0=5∧0≤(rd_T105 l n).f1∧(rd_T105 l n).f1<l.length):=by
 obtain⟨h1,h2,h3,h4⟩:=machine_steps h;have h5:=h4 n h0 hn;have h6:(rd_T105 l n).f0≠5→n+1<l.length:=by
  intro hne;rcases Int.lt_or_eq_of_le (show n+1≤l.length by omega)with h|h
  ·exact h
  ·exact absurd (by rw[show n=(l.length:Int)-1 by omega];exact h3) hne
 unfold stepB at h5;generalize rd_T105 l n=s at *
 grind
theorem impl_RunMachine_ev(l:List S105)(hl:l.length≤1048576)(text:ByteArray)(ht:text.size≤1048576)(at_ most:Int):Ev (fun k=>impl_RunMachine.f k l text at_ most) (runB l text at_ most):=by
  have hbad:Ev (fun k=>impl_RunMachine.j0 k l text at_ most true) (-1, -1,1):=by
   rw[ev_succ];simp[impl_RunMachine.j0,ev_some]
  unfold impl_RunMachine.f runB;simp only[impl_length.f,impl_within_eq,Option.bind_some,ev_ite];by_cases c1:(text.size:Int)>20000
  ·rw[if_pos c1,if_neg (by omega)]
   exact hbad
  · rw [if_neg c1]
    by_cases c2:0≤at_∧at_≤text.size
    · rw [if_pos (by simpa using c2)]
      by_cases c3:0≤most∧most≤1000000
      · rw [if_pos (by simpa using c3),ev_bind (impl_MachineOk_ev l hl)]
        cases c4:machineB l
        ·simpa using hbad
        · rw [if_pos ⟨rfl,by omega,c2.1,c2.2,c3.1,c3.2⟩]
          obtain⟨h1,h2,_,_⟩:=machine_steps c4;rw[ev_succ];simp only[impl_RunMachine.j0,Bool.not_true,Bool.false_eq_true,if_false];have key:=down most.toNat (fun i=>∀e r hand place next:Int,at_≤place→place≤text.size→0≤next→next<l.length→Ev (fun k=>impl_RunMachine.l0 k l text at_ e r hand place next most (i:Nat)) (runR l text at_ (most.toNat-i) e r hand place next)) ?_ ?_ 0 (by omega) (-1) (-1) 0 at_ 0 (by omega) c2.2 (by omega) (by omega)
          ·exact key
          · intro e r hand place next _ _ _ _
            rw[ev_succ,Nat.sub_self];simp only[impl_RunMachine.l0,ev_ite,runR];rw[if_neg (by omega)];exact ev_some.2 rfl
          · intro i hi ih e r hand place next hp0 hp1 hn0 hn1
            rw[ev_succ,show most.toNat-i=(most.toNat-(i+1))+1 by omega];simp only[impl_RunMachine.l0,impl_length.f,Option.bind_some,ev_ite,runR,ev_some];rw[if_pos (by omega),if_pos hn0,if_pos hn1,wrap_succ hi (by omega),wrap_id (x:=next+1) (by omega) (by omega)];have hb:=bt_range text place;rw[wrap_id (x:=bt text place) (by omega) (by omega)];have hx:=machine_next c4 hn0 hn1;generalize rd_T105 l next=s at *
            rcases hx with⟨h,hx⟩| ⟨h,hx⟩| ⟨h,hx,hx1,hx2⟩| ⟨h,hx1,hx2⟩
            · simp only[h,Int.reduceEq,if_true,if_false]
              split
              ·exact ih _ _ _ _ _ hp0 hp1 (by omega) hx
              ·exact ih _ _ _ _ _ hp0 hp1 (by omega) hx
            · simp only[h,Int.reduceEq,if_true,if_false]
              split
              ·rfl
              · rw[if_pos (by omega),if_pos (by omega),wrap_id (x:=place+1) (by omega) (by omega)]
                exact ih _ _ _ _ _ (by omega) (by omega) (by omega) hx
            · rcases h with h|h
              · simp only[h,Int.reduceEq,if_true,if_false]
                split
                ·exact ih _ _ _ _ _ hp0 hp1 hx1 hx2
                ·exact ih _ _ _ _ _ hp0 hp1 (by omega) hx
              · simp only[h,Int.reduceEq,if_true,if_false]
                split
                ·exact ih _ _ _ _ _ hp0 hp1 hx1 hx2
                ·exact ih _ _ _ _ _ hp0 hp1 (by omega) hx
            · simp only[h,Int.reduceEq,if_true,if_false]
              exact ih _ _ _ _ _ hp0 hp1 hx1 hx2
      · rw[if_neg (by simpa using c3),if_neg (fun h=>c3 ⟨h.2.2.2.2.1,h.2.2.2.2.2⟩)]
        exact hbad
    ·rw[if_neg (by simpa using c2),if_neg (fun h=>c2 ⟨h.2.2.1,h.2.2.2.1⟩)]
     exact hbad
theorem spec_RunMachine_ev(l:List S105)(hl:l.length≤1048576)(text:ByteArray)(ht:text.size≤1048576)(at_ most:Int):Ev (fun k=>spec_RunMachine.f k l text at_ most) (runB l text at_ most):=by
  have hbad:Ev (fun k=>spec_RunMachine.j0 k l text at_ most true) (-1, -1,1):=by
   rw[ev_succ];simp[spec_RunMachine.j0,ev_some]
  unfold spec_RunMachine.f runB;rw[ev_bind (spec_MachineOk_ev l hl)];simp only[spec_l1In_eq,Option.bind_some,ev_ite];cases c4:machineB l
  ·simpa using hbad
  rw[if_pos rfl];by_cases c1:(text.size:Int)>20000
  ·rw[if_pos c1,if_neg (by omega)]
   exact hbad
  · rw [if_neg c1]
    by_cases c2:0≤at_∧at_≤text.size
    · rw [if_pos (by simpa using c2)]
      by_cases c3:0≤most∧most≤1000000
      · rw [if_pos ⟨rfl,by omega,c2.1,c2.2,c3.1,c3.2⟩]
        obtain⟨h1,h2,_,_⟩:=machine_steps c4;rw[decide_eq_true c3,ev_succ];simp only[spec_RunMachine.j0,Bool.not_true,Bool.false_eq_true,if_false];have key:=down most.toNat (fun i=>∀e r hand place next:Int,at_≤place→place≤text.size→0≤next→next<l.length→Ev (fun k=>spec_RunMachine.l0 k l text at_ most e r hand place next (i:Nat)) (runR l text at_ (most.toNat-i) e r hand place next)) ?_ ?_ 0 (by omega) (-1) (-1) 0 at_ 0 (by omega) c2.2 (by omega) (by omega)
        ·exact key
        · intro e r hand place next _ _ _ _
          rw[ev_succ,Nat.sub_self];simp only[spec_RunMachine.l0,ev_ite,runR];rw[if_neg (by omega)];exact ev_some.2 rfl
        · intro i hi ih e r hand place next hp0 hp1 hn0 hn1
          rw[ev_succ,show most.toNat-i=(most.toNat-(i+1))+1 by omega];simp only[spec_RunMachine.l0,Option.bind_some,ev_ite,runR,ev_some];rw[if_pos (by omega),if_pos hn0,if_pos hn1,wrap_succ hi (by omega),wrap_id (x:=next+1) (by omega) (by omega)];have hb:=bt_range text place;rw[wrap_id (x:=bt text place) (by omega) (by omega)];have hx:=machine_next c4 hn0 hn1;generalize rd_T105 l next=s at *
          rcases hx with⟨h,hx⟩| ⟨h,hx⟩| ⟨h,hx,hx1,hx2⟩| ⟨h,hx1,hx2⟩
          · simp only[h,Int.reduceEq,if_true,if_false]
            by_cases hp:place=at_
            ·rw[if_neg (by omega),if_pos hp]
             exact ih _ _ _ _ _ hp0 hp1 (by omega) hx
            ·rw[if_pos (by omega),if_neg hp]
             exact ih _ _ _ _ _ hp0 hp1 (by omega) hx
          · simp only[h,Int.reduceEq,if_true,if_false]
            split
            ·rfl
            ·rw[if_pos (by omega),if_pos (by omega),wrap_id (x:=place+1) (by omega) (by omega)]
             exact ih _ _ _ _ _ (by omega) (by omega) (by omega) hx
          · rcases h with h|h
            ·simp only[h,Int.reduceEq,if_true,if_false]
             split
             ·exact ih _ _ _ _ _ hp0 hp1 hx1 hx2
             ·exact ih _ _ _ _ _ hp0 hp1 (by omega) hx
            ·simp only[h,Int.reduceEq,if_true,if_false]
             split
             ·exact ih _ _ _ _ _ hp0 hp1 hx1 hx2
             ·exact ih _ _ _ _ _ hp0 hp1 (by omega) hx
          · simp only[h,Int.reduceEq,if_true,if_false]
            exact ih _ _ _ _ _ hp0 hp1 hx1 hx2
      · rw[if_neg (fun h=>c3 ⟨h.2.2.2.2.1,h.2.2.2.2.2⟩),decide_eq_false c3]
        exact hbad
    ·rw[if_neg (by simpa using c2),if_neg (fun h=>c2 ⟨h.2.2.1,h.2.2.2.1⟩)]
     exact hbad
end Go.Proofs.Ytlecpdpdcocibaa.P
namespace Go.Proofs.Ytlecpdpdcocibaa.fnFuel.Pure
open Go.RowKit Go.Proofs.YtlecpdpdcocibaaW.PrintWords Go.Proofs.YtlecpdpdcocibaaW.PrintLast Go.Proofs.Ytlecpdpdcocibaa.P Go.Proofs.YtlecpdpdcocibaaEv
set_option linter.unusedVariables false
set_option linter.unusedSimpArgs false
theorem wf8{n:Int}(h:(Lit.int .u8 n).wf=true):0≤n∧n≤255:=by
 simp[Lit.wf,IntKind.min,IntKind.max,IntKind.signed,IntKind.bits]at h;omega
theorem runR_ge(l:List S105)(text:ByteArray)(at_:Int):∀(d:Nat) (e r hand place next:Int),e≤place→e≤(runR l text at_ d e r hand place next).1:=by
  intro d
  induction d with
  |zero=>intro e r hand place next _;exact Int.le_refl _
  | succ d ih=>
    intro e r hand place next he
    simp only[runR];split
    ·split
     ·exact ih _ _ _ _ _ he
     ·exact Int.le_trans he (ih _ _ _ _ _ (Int.le_refl _))
    · split
      · split
        ·exact Int.le_refl _
        ·exact ih _ _ _ _ _ (by omega)
      · split
        ·split<;>exact ih _ _ _ _ _ he
        · split
          ·split<;>exact ih _ _ _ _ _ he
          ·exact ih _ _ _ _ _ he
theorem runR_code(l:List S105)(text:ByteArray)(at_:Int):∀(d:Nat) (e r hand place next:Int),(runR l text at_ d e r hand place next).2.2=0∨(runR l text at_ d e r hand place next).2.2=2:=by
  intro d
  induction d with
  |zero=>intro e r hand place next;exact .inr rfl
  | succ d ih=>
    intro e r hand place next
    simp only[runR];split
    ·split<;>exact ih _ _ _ _ _
    · split
      · split
        ·exact .inl rfl
        ·exact ih _ _ _ _ _
      · split
        ·split<;>exact ih _ _ _ _ _
        · split
          ·split<;>exact ih _ _ _ _ _
          ·exact ih _ _ _ _ _
def Few(x y:Int × Int × Int):Prop:=x.1≤y.1∧(x.2.2=0→x=y)
theorem runR_few(l:List S105)(text:ByteArray)(at_:Int):∀(d' d:Nat) (e r hand place next:Int),d'≤d→e≤place→Few (runR l text at_ d' e r hand place next) (runR l text at_ d e r hand place next):=by
  intro d'
  induction d' with
  |zero=>intro d e r hand place next _ he;exact⟨runR_ge l text at_ d e r hand place next he,fun h=>by cases h⟩
  | succ d' ih=>
    intro d e r hand place next hd he
    obtain⟨d,rfl⟩:∃m,d=m+1:=⟨d-1,by omega⟩;have hd:d'≤d:=by omega
    simp only[runR];split
    ·split
     ·exact ih _ _ _ _ _ _ hd he
     ·exact ih _ _ _ _ _ _ hd (Int.le_refl _)
    · split
      · split
        ·exact⟨Int.le_refl _,fun _=>rfl⟩
        ·exact ih _ _ _ _ _ _ hd (by omega)
      · split
        ·split<;>exact ih _ _ _ _ _ _ hd he
        · split
          ·split<;>exact ih _ _ _ _ _ _ hd he
          ·exact ih _ _ _ _ _ _ hd he
theorem pure_FnFuel:∀(l0:List Int),(l0.length≤maxLen∧∀y∈l0,(Lit.int .u8 y).wf=true)→∃k,laws_FnFuel.f k l0=some true:=by
 rintro l ⟨hm,hg⟩;refine ev_get (g:=fun k=>laws_FnFuel.f k l) ?_;unfold laws_FnFuel.f laws_big.f;simp only[Option.bind_some,ev_ite];by_cases hl:l.length≤1048576;rotate_left
 ·rw[if_pos (by simp;omega)]
  exact ev_some.2 rfl
 rw[if_neg (by simp;omega)];obtain⟨m,s,at_,most,e,hml,hs⟩:=DrawRunMachine_ok (fun x hx=>wf8 (hg x hx)) hl;rw[ev_bind e,ev_bind (spec_RunMachine_ev m (by omega) s (by omega) at_ most),ev_bind (impl_RunMachine_ev m (by omega) s (by omega) at_ most)];simp only[ev_ite];rw[if_pos (by trivial),if_pos (by trivial),ev_succ];simp only[laws_FnFuel.j0,bne_self_eq_false,Bool.false_eq_true,if_false,ev_ite];by_cases hc:machineB m=true∧(s.size:Int)≤20000∧0≤at_∧at_≤s.size∧0≤most∧most≤1000000
 ·have hB:∀mo:Int,0≤mo→mo≤1000000→runB m s at_ mo=runR m s at_ mo.toNat (-1) (-1) 0 at_ 0:=fun mo h0 h1=>if_pos ⟨hc.1,hc.2.1,hc.2.2.1,hc.2.2.2.1,h0,h1⟩
  have ht:Int.tdiv most 2=most / 2:=Int.tdiv_eq_ediv_of_nonneg hc.2.2.2.2.1;have hw:wrap64 (Int.tdiv most 2)=most / 2:=by rw[ht];exact wrap_id (by omega) (by omega)
  have hF:=runR_few m s at_ (most / 2).toNat most.toNat (-1) (-1) 0 at_ 0 (by omega) (by omega);have hcd:=runR_code m s at_ most.toNat (-1) (-1) 0 at_ 0;rw[hw,ev_bind (impl_RunMachine_ev m (by omega) s (by omega) at_ (most / 2)),hB most (by omega) (by omega),hB (most / 2) (by omega) (by omega)];generalize runR m s at_ most.toNat (-1) (-1) 0 at_ 0=y at *;generalize runR m s at_ (most / 2).toNat (-1) (-1) 0 at_ 0=x at *;obtain⟨h1,h2⟩:=hF;rw[if_neg (by omega),ev_ite,if_pos h1,ev_ite];by_cases h0:x.2.2=0
  ·rw[if_pos h0]
   have:=h2 h0;subst this;rw[ev_ite,if_pos h0,ev_ite,if_pos rfl];exact ev_some.2 (by simp)
  ·rw[if_neg h0]
   exact ev_some.2 rfl
 ·have hB:runB m s at_ most=(-1, -1,1):=if_neg hc
  rw[hB];rw[if_pos (by trivial),if_pos (by trivial)];exact ev_some.2 rfl
end Go.Proofs.Ytlecpdpdcocibaa.fnFuel.Pure
namespace Go.Proofs.Ytlecpdpdcocibaa.fnFuel
open Go.ChangeShapes Go.WideShapes Go.ChangeAt Go.RowKit Go.Proofs.YtlecpdpdcocibaaW.PrintWords Go.Proofs.YtlecpdpdcocibaaOpen Go.Proofs.Ytlecpdpdcocibaa.P
open Go.ChangeMaps (open_string shut_string)
set_option linter.unusedVariables false
set_option linter.unusedSimpArgs false
theorem own:ownKnob Try.prog.godebug=none:=by kernel_rfl
theorem laidOut:laidOutB Try.prog=true:=by kernel_rfl
theorem lifted(os:Os)(started:os.Started)(H:Type)(enc:TypeId × Value→H):
   ReturnsInHanded {} Try.checked os 5 .any (Rows.fnFuelSpec.pre6 enc Try.prog Try.f5 Rows.fnFuelRow.domain false) (Rows.fnFuelSpec.post enc Try.prog Try.f5 false true false false):=by
 refine returnsInHanded_of_change_sized (C:=Try.checked) own started (by kernel_rfl) Try.func5
  (ChangeSpec.witness6 (enc:=enc) (C:=Try.checked) false ⟨#[],#[.slice none 0 0],[]⟩ 8 (by kernel_rfl) (by kernel_rfl) (by kernel_rfl) (by kernel_rfl)) ?_
 intro W base args ds gs before hval0 hW hcnd hsz0 _;have hsz:(DataW.weightsEach Try.prog (Try.f5.params.toList++Rows.fnFuelSpec.plain.varTypes Try.prog) (ds++gs)).all (· ≤reachBytes)=true:=hsz0;have hval:∀(j:Nat) t v,Try.f5.params[j]? =some t→args[j]? =some v→Value.okWide Try.prog W .any base t v:=hval0;have hW':=hW;obtain⟨p,q,hA0,hV,rfl,hfz,hnd⟩:=hW;have hA:DataW.TrodAll enc Try.prog W 0 (fun _=>true) true Try.f5.params.toList args.toList ds p:=hA0;rw[Try.params5]at hA hval hsz;obtain⟨v0,vs0,d0,ds0,p0,q0,hargs,rfl,rfl,h0,r0⟩:=trodAll_cons hA;obtain⟨rfl,rfl,rfl⟩:=trodAll_nil r0;obtain rfl:args= #[v0]:=by cases args;simp_all
 obtain⟨rfl,rfl⟩:=trodVars_none hV;have k0':=h0;have lt0:∀x∈p0,x.block<W.heap.size:=by obtain⟨m,hm⟩:=k0';exact DataW.trod_lt m _ _ _ hm
 obtain⟨a0,len0,cap0,rfl⟩:=okWide_slice Try.underlying39 (hval 0 39 v0 rfl rfl);obtain⟨fuel0,hf0⟩:=h0;have hf0':DataW.trod enc Try.prog W 0 (fun _=>true) true fuel0 39 [.slice a0 len0 cap0]=some (d0,p0):=hf0;obtain⟨x0,⟨A0,c0,he0,hl0,hC0⟩,hG0⟩:=(opens_slice Try.underlying39 (by kernel_rfl) (opens_int Try.underlying5 (by kernel_rfl))).op enc W 0 (fun _=>true) true fuel0 _ _ hf0';obtain⟨rfl,rfl,rfl⟩:a0=A0∧len0=x0.length∧cap0=c0:=by simpa using he0
 clear hA0 hval0 hsz0 hsz;obtain⟨k,hk⟩:=Pure.pure_FnFuel x0 hG0;refine(laws_FnFuel.calls k _ _ x0 true W hC0 hl0 hk).mono fun e W' ⟨he,bel0⟩=>?_
 have bel:Below W.heap.size W W':=bel0;subst he;exact⟨_,rfl,_,_,_,[],_,[],hW',trodAll_mk1 (shut_bool Try.underlying4 _),(trodAll_cons_mk (Below.trod laidOut (by kernel_rfl) (ot_ (by kernel_rfl)) k0' bel lt0) trodAll_mk0),rfl,bel.frame _,fun h=>by cases h⟩
theorem over:Rows.fnFuelRow.holds Try.pinned (OpenSpec.ofChange Rows.fnFuelSpec):=
 OpenClaim.holds_of_wide 5 Try.f5 rfl rfl rfl rfl rfl rfl rfl ⟨rfl,rfl,rfl,rfl,rfl⟩ rfl rfl rfl rfl rfl (by kernel_rfl) Try.func5 (by kernel_rfl)
  (ot_ (by kernel_rfl)) (by unfold Func.isWrapper;first| (rw[if_pos (by decide +kernel)];kernel_rfl)| (rw[if_neg (by decide +kernel)];exact⟨rfl,rfl⟩))
  (fun os started H enc _=>lifted os started H enc)
theorem proved:Rows.FnFuelSaid:=over
#print axioms proved
end Go.Proofs.Ytlecpdpdcocibaa.fnFuel
namespace Go.Proofs.Ytlecpdpdcocibaa
theorem fnFuel_holds:Rows.FnFuelSaid:=fnFuel.proved
end Go.Proofs.Ytlecpdpdcocibaa
