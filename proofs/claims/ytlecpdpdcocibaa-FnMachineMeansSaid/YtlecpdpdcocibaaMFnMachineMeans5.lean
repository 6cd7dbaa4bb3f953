/- The law FnMachineMeans holds for every call: part 6 of 6 of the proof (the row). Conditions: none beyond what the given row says. -/
import Derived.Test.YtlecpdpdcocibaaMFnMachineMeans4
import Derived.Test.YtlecpdpdcocibaaMFnMachineMeans1
import Derived.Test.YtlecpdpdcocibaaMFnMachineMeans2
import Derived.Test.YtlecpdpdcocibaaMFnMachineMeans3
import Derived.Shelf.Abstract
import Derived.Lib.Hide
import Derived.Test.YtlecpdpdcocibaaMFnMachineMeans0
import Derived.SizedLaws
import Derived.ChangeSlices
import Derived.Test.YtlecpdpdcocibaaRows
import Derived.WalkKit
import Derived.ProofKit
import Derived.OpenShut
import Derived.ShutString
import Derived.ChangeOld
import Derived.Below
set_option maxHeartbeats 16000000
set_option maxRecDepth 100000
namespace Go.Proofs.Ytlecpdpdcocibaa.P
open Go.RowKit Go.Proofs.YtlecpdpdcocibaaW.PrintWords Go.Proofs.YtlecpdpdcocibaaW.PrintLast Go.Proofs.YtlecpdpdcocibaaW.PrintMore Go.Proofs.YtlecpdpdcocibaaEv
set_option linter.unusedVariables false
set_option linter.unusedSimpArgs false
def partR(c:List S163)(l:List Int):List Int:=(List.range 256).map fun b:Nat=>2*rd l (b:Int)+(if inAny c b then 1 else 0)
def blockStep(l:List Int)(c:List S163):List Int:=outR [] (partR c l)
def blockL(cs:List (List S163))(l:List Int):List Int:=cs.foldl blockStep l
def blocksR(cs:List (List S163)):List Int × Int:=
 if cs.length≤500∧cs.all classB=true then(outR [] (blockL cs (List.replicate 256 0)),((seenR [] (blockL cs (List.replicate 256 0))).length:Int))else([],0)
theorem partR_length(c:List S163)(l:List Int):(partR c l).length=256:=by simp[partR]
theorem partR_rd(c:List S163)(l:List Int)(b:Nat)(hb:b<256):rd (partR c l) (b:Int)=2*rd l (b:Int)+(if inAny c b then 1 else 0):=by
 rw[rd_get _ _ (by rw[partR_length];exact hb)];simp[partR]
def Sm(l:List Int):Prop:=l.length=256∧∀b:Nat,b<256→0≤rd l (b:Int)∧rd l (b:Int)≤256
theorem outR_small(l:List Int)(h:l.length=256):Sm (outR [] l):=by
 refine⟨by rw[outR_length,h],fun b hb=>?_⟩;have h1:=outR_blk l [];have h2:=blk_all _ _ _ (by simp) h1 (rd (outR [] l) (b:Int)) (rd_mem (by omega) (by rw[outR_length];omega));have h3:=seenR_length l [];simp at h3;omega
theorem zeros_small:Sm (List.replicate 256 0):=by
 refine⟨List.length_replicate,fun b hb=>?_⟩;rw[rd_get _ _ (by rw[List.length_replicate];exact hb),List.getElem_replicate];omega
theorem Blocks_l1(cs:List (List S163))(c:List S163)(l x4:List Int)(i:Nat)(hi:i<cs.length)(hc:cs.length≤1000)(hl:Sm l)(r:List Int × Int)
    (hn:Ev (fun k=>spec_Blocks.l0 k cs x4 (blockStep l c) ((i+1:Nat):Int)) r):
    Ev (fun k=>spec_Blocks.l1 k cs x4 l (i:Int) (flagsL (inAny c)) 0) r:=by
  have key:=down 256 (fun b=>Ev (fun k=>spec_Blocks.l1 k cs x4 (marked (fun b:Nat=>2*rd l (b:Int)+(if inAny c b then 1 else 0)) l b) (i:Int) (flagsL (inAny c)) (b:Nat)) r) ?_ ?_ 0 (by omega)
  ·simpa[marked]using key
  ·have hm:marked (fun b:Nat=>2*rd l (b:Int)+(if inAny c b then 1 else 0)) l 256=partR c l:=by
     unfold marked partR;rw[List.drop_eq_nil_of_le (by rw[hl.1];exact Nat.le_refl _),List.append_nil]
   rw[ev_succ,hm];simp only[spec_Blocks.l1,ev_ite];rw[iN (by omega),ev_bind (Renamed_ok _ (by rw[partR_length];omega)),wrap_succ hi (by omega)];exact hn
  · intro b hb ih
    have hlen:=marked_length (fun b:Nat=>2*rd l (b:Int)+(if inAny c b then 1 else 0)) l b (by rw[hl.1];omega);have hset:=marked_set (fun b:Nat=>2*rd l (b:Int)+(if inAny c b then 1 else 0)) l b (by rw[hl.1];omega);have hrd:rd (marked (fun b:Nat=>2*rd l (b:Int)+(if inAny c b then 1 else 0)) l b) (b:Int)=rd l (b:Int):=by
     rw[rd_get _ _ (by rw[hlen,hl.1];exact hb),rd_get _ _ (by rw[hl.1];exact hb)];unfold marked;rw[List.getElem_append_right (by simp)];simp
    have hs:=hl.2 b hb;rw[ev_succ];simp only[spec_Blocks.l1,ev_ite,Option.bind_some];rw[iP (by omega),iP (by omega),hlen,hl.1,iP (by omega),flagsL_length,iP (by omega),flagsL_rd _ b hb,hrd,wrap_id (x:=2*rd l (b:Int)) (by omega) (by omega),wrap_succ (m:=256) hb (by omega),Int.toNat_natCast];rw[←hset]at ih;generalize marked (fun b:Nat=>2*rd l (b:Int)+(if inAny c b then 1 else 0)) l b=m at *;cases hf:inAny c b
    ·rw[iN (by decide)]
     rw[hf]at ih;simpa using ih
    · rw[iP rfl]
      have e:rd (m.set b (2*rd l (b:Int))) (b:Int)=2*rd l (b:Int):=by
        rw[rd_get _ _ (by rw[List.length_set,hlen,hl.1];exact hb)];simp
      rw[e,wrap_id (x:=2*rd l (b:Int)+1) (by omega) (by omega),List.set_set];rw[hf]at ih;simpa using ih
theorem Blocks_l0(cs:List (List S163))(hc:cs.length≤500):∀i,i≤cs.length→∀l,Sm l→
    Ev (fun k=>spec_Blocks.l0 k cs [] l (i:Int)) (if(cs.drop i).all classB=true then(outR [] (blockL (cs.drop i) l),((seenR [] (blockL (cs.drop i) l)).length:Int))else([],0)):=by
  refine down cs.length _ ?_ ?_
  ·intro l hl
   rw[ev_succ,List.drop_length];simp only[spec_Blocks.l0,ev_ite];rw[iN (by omega),iP (by rfl),ev_bind (Renamed_ok l (by rw[hl.1];omega))];exact ev_some.2 rfl
  · intro i hi ih l hl
    have hd:cs.drop i=rd_L7 cs (i:Int) :: cs.drop (i+1):=by
     rw[drop_cons cs [] i hi];simp[rd_L7]
    rw[ev_succ,hd];simp only[spec_Blocks.l0,ev_ite];rw[iP (by omega),iP (by omega),ev_bind (spec_ClassOk_ev _),ev_ite];by_cases hb:classB (rd_L7 cs (i:Int))=true;rotate_left
    ·rw[iN hb]
     refine ev_some.2 (iN ?_).symm;rw[List.all_cons,Bool.eq_false_iff.2 hb];simp
    · rw[iP hb,ev_bind (spec_l1Marks_ev _ hb)]
      refine ev_congr (Blocks_l1 cs _ l [] i hi (by omega) hl _ (ih _ (outR_small _ (partR_length _ _)))) ?_;by_cases ha:(cs.drop (i+1)).all classB=true
      · rw[iP ha,iP (by rw[List.all_cons,hb,ha];rfl)]
        rfl
      ·rw[iN ha,iN (by rw[List.all_cons,hb,Bool.true_and];exact ha)]
theorem Blocks_ok(cs:List (List S163)):Ev (fun k=>spec_Blocks.f k cs) (blocksR cs):=by
 unfold spec_Blocks.f blocksR;simp only[Option.bind_some,ev_ite];by_cases hc:cs.length≤500
 ·rw[iN (by omega),iP (by omega)]
  have h:=Blocks_l0 cs hc 0 (by omega) _ zeros_small;rw[List.drop_zero]at h;by_cases ha:cs.all classB=true
  ·rw[iP ⟨hc,ha⟩]
   rw[iP ha]at h;exact h
  ·rw[iN (fun h=>ha h.2)]
   rw[iN ha]at h;exact h
 ·rw[iP (by omega),iN (fun h=>hc h.1)]
  exact ev_some.2 rfl
theorem blockL_small:∀(cs:List (List S163)) (l:List Int),Sm l→Sm (blockL cs l)
 | [],_,h=>h
 |c :: cs,l,h=>blockL_small cs (blockStep l c) (outR_small _ (partR_length _ _))
theorem blockL_same:∀(cs:List (List S163)) (l:List Int),Sm l→∀i j:Nat,i<256→j<256→(rd (blockL cs l) (i:Int)=rd (blockL cs l) (j:Int)↔rd l (i:Int)=rd l (j:Int)∧∀c∈cs,inAny c i=inAny c j)
 | [],l,_,i,j,_,_=>by simp[blockL]
 | c :: cs,l,h,i,j,hi,hj=>by
   have h1:=blockL_same cs (blockStep l c) (outR_small _ (partR_length _ _)) i j hi hj;have h2:rd (blockStep l c) (i:Int)=rd (blockStep l c) (j:Int)↔rd l (i:Int)=rd l (j:Int)∧inAny c i=inAny c j:=by
     unfold blockStep;rw[outR_same (by rw[partR_length];exact hi) (by rw[partR_length];exact hj),partR_rd c l i hi,partR_rd c l j hj];cases inAny c i<;>cases inAny c j<;>simp<;>omega
   show rd (blockL cs (blockStep l c)) (i:Int)=rd (blockL cs (blockStep l c)) (j:Int)↔_
   rw[h1,h2];simp only[List.mem_cons,forall_eq_or_imp];constructor
   ·rintro⟨⟨a,b⟩,c⟩;exact⟨a,b,c⟩
   ·rintro⟨a,b,c⟩;exact⟨⟨a,b⟩,c⟩
structure BlkR (cs:List (List S163)) (block:List Int) (n:Int):Prop where
 len:block.length=256
 blk:blk block 0=some n
 pos:1≤n∧n≤256
 same:∀i j:Nat,i<256→j<256→(rd block (i:Int)=rd block (j:Int)↔∀c∈cs,inAny c i=inAny c j)
theorem blocksR_true{cs:List (List S163)}(h1:cs.length≤500)(h2:cs.all classB=true):BlkR cs (blocksR cs).1 (blocksR cs).2:=by
 unfold blocksR;rw[iP ⟨h1,h2⟩];have hs:=blockL_small cs _ zeros_small;have hz:∀i j:Nat,i<256→j<256→rd (List.replicate 256 (0:Int)) (i:Int)=rd (List.replicate 256 (0:Int)) (j:Int):=fun i j hi hj=>by
  rw[rd_get _ _ (by rw[List.length_replicate];exact hi),rd_get _ _ (by rw[List.length_replicate];exact hj),List.getElem_replicate,List.getElem_replicate]
 have hsm:=blockL_same cs _ zeros_small;generalize List.replicate 256 (0:Int)=Z at *;generalize blockL cs Z=L at *;have hb:blk (outR [] L) 0=some ((seenR [] L).length:Int):=outR_blk L [];have hl:(outR [] L).length=256:=by rw[outR_length,hs.1]
 refine⟨hl,hb,⟨?_,?_⟩,fun i j hi hj=>?_⟩
 ·have:=blk_all _ _ _ (by omega) hb (rd (outR [] L) ((0:Nat):Int)) (rd_mem (by omega) (by rw[hl];decide))
  dsimp only;omega
 ·have:=blk_le _ _ _ (by omega) hb
  rw[hl]at this;dsimp only;omega
 ·dsimp only
  rw[outR_same (by rw[hs.1];exact hi) (by rw[hs.1];exact hj),hsm i j hi hj];exact⟨fun h=>h.2,fun h=>⟨hz i j hi hj,h⟩⟩
structure NfaR (n:Int) (es:List S116) (en:List S138):Prop where
 size:1≤n∧n≤3000
 few:es.length≤12000∧en.length≤40
 edge:∀e∈es,(0≤e.f0∧e.f0<n)∧(0≤e.f1∧e.f1<n)∧classB e.f2=true
 ends:∀(j:Nat) (e:S138),en[j]? =some e→e.f1=(j:Int)∧0≤e.f0∧e.f0<n
def edgeB(n:Int)(e:S116):Bool:=decide (0≤e.f0∧e.f0≤n-1)&&(decide (0≤e.f1∧e.f1≤n-1)&&classB e.f2)
def endsB(n:Int):Nat→List S138→Bool
 | _,[]=>true
 |i,e :: r=>decide (e.f1=(i:Int))&&(decide (0≤e.f0∧e.f0≤n-1)&&endsB n (i+1) r)
def nfaB(n:Int)(es:List S116)(en:List S138):Bool:=decide (1≤n∧n≤3000)&&(decide (es.length≤12000)&&(decide (en.length≤40)&&(es.all (edgeB n)&&endsB n 0 en)))
theorem NfaOk_ok(n:Int)(es:List S116)(en:List S138):Ev (fun k=>spec_NfaOk.f k n es en) (nfaB n es en):=by
  have hj:Ev (fun k=>spec_NfaOk.j0 k true n es en) false:=by
   rw[ev_succ];simp only[spec_NfaOk.j0,if_true];exact ev_some.2 rfl
  unfold spec_NfaOk.f nfaB;simp only[spec_l1In_eq,Option.bind_some,ev_ite];by_cases c1:1≤n∧n≤3000;rotate_left
  ·rw[decide_eq_false c1,iN (by decide),Bool.false_and]
   exact hj
  rw[decide_eq_true c1,iP rfl,Bool.true_and];have hw:wrap64 (n-1)=n-1:=wrap_id (by omega) (by omega);by_cases c2:es.length≤12000;rotate_left
  ·rw[decide_eq_false c2,iP (by omega),Bool.false_and]
   exact hj
  rw[decide_eq_true c2,iN (by omega),Bool.true_and];by_cases c3:en.length≤40;rotate_left
  ·rw[decide_eq_false c3,decide_eq_true (by omega),Bool.false_and]
   exact hj
  rw [decide_eq_true c3,decide_eq_false (by omega),Bool.true_and,ev_succ];simp only[spec_NfaOk.j0,Bool.false_eq_true,if_false];have hl1:Ev (fun k=>spec_NfaOk.l1 k 0 n es en) (endsB n 0 en):=by
    refine ev_loop en.length (fun k i=>spec_NfaOk.l1 k (i:Nat) n es en) (fun i=>endsB n i (en.drop i)) ?_ ?_ 0 (by omega)
    ·rw[ev_succ,List.drop_length]
     simp[spec_NfaOk.l1,ev_some,endsB]
    · intro i hi ih
      have hr:rd_T138 en (i:Int)=en[i]:=by simp[rd_T138,hi]
      rw[ev_succ,List.drop_eq_getElem_cons hi];simp only[spec_NfaOk.l1,spec_l1In_eq,Option.bind_some,ev_ite,hr,hw,endsB];rw[iP (by omega),iP (by omega),wrap_succ hi (by omega)];by_cases a1:en[i].f1=(i:Int)
      · rw[iP a1,decide_eq_true a1,Bool.true_and]
        by_cases a2:0≤en[i].f0∧en[i].f0≤n-1
        ·rw[decide_eq_true a2,iP rfl,Bool.true_and]
         exact ih
        ·rw[decide_eq_false a2,iN (by decide),Bool.false_and]
         exact ev_some.2 rfl
      · rw[iN a1,decide_eq_false a1,Bool.false_and]
        exact ev_some.2 rfl
  refine ev_loop es.length (fun k i=>spec_NfaOk.l0 k (i:Nat) n es en) (fun i=>(es.drop i).all (edgeB n)&&endsB n 0 en) ?_ ?_ 0 (by omega)
  ·rw[ev_succ,List.drop_length]
   simp only[spec_NfaOk.l0,ev_ite];rw[iN (by omega)];exact hl1
  · intro i hi ih
    have hr:rd_T116 es (i:Int)=es[i]:=by simp[rd_T116,hi]
    rw[ev_succ,List.drop_eq_getElem_cons hi];simp only[spec_NfaOk.l0,spec_l1In_eq,Option.bind_some,ev_ite,hr,hw,List.all_cons,edgeB];rw[iP (by omega),iP (by omega),wrap_succ hi (by omega)];by_cases a1:0≤es[i].f0∧es[i].f0≤n-1
    · rw [decide_eq_true a1,iP rfl,Bool.true_and]
      by_cases a2:0≤es[i].f1∧es[i].f1≤n-1
      · rw[decide_eq_true a2,iP rfl,Bool.true_and,ev_bind (spec_ClassOk_ev _),ev_ite]
        cases classB es[i].f2
        · rw[iN (by decide),Bool.false_and]
          exact ev_some.2 rfl
        · rw[iP rfl,Bool.true_and]
          exact ih
      · rw[decide_eq_false a2,iN (by decide),Bool.false_and]
        exact ev_some.2 rfl
    ·rw[decide_eq_false a1,iN (by decide),Bool.false_and]
     exact ev_some.2 rfl
inductive Eps (es:List S116) (P:Int→Prop):Int→Prop
 |base {q:Int}:P q→Eps es P q
 |step {e:S116}:e∈es→e.f2= []→Eps es P e.f0→Eps es P e.f1
theorem Eps.imp{es:List S116}{P P':Int→Prop}(h:∀q,P q→P' q){q:Int}(hq:Eps es P q):Eps es P' q:=by
 induction hq with
 |base hq=>exact .base (h _ hq)
 |step he h0 _ ih=>exact .step he h0 ih
def Mk(m:List Bool)(q:Int):Prop:=0≤q∧rdOf false m q=true
theorem Mk.lt{m:List Bool}{q:Int}(h:Mk m q):q<m.length:=by
 rcases Int.lt_or_le q m.length with h1|h1
 ·exact h1
 ·have:=h.2
  unfold rdOf at this;rw[List.getD_eq_getElem?_getD,List.getElem?_eq_none (by omega)]at this;simp at this
theorem mk_set(m:List Bool)(v q:Int)(hv:0≤v)(hl:v<m.length):Mk (m.set v.toNat true) q↔(q=v∨Mk m q):=by
  unfold Mk rdOf;simp only[List.getD_eq_getElem?_getD,List.getElem?_set];constructor
  ·rintro⟨h0,h⟩
   by_cases e:q=v
   ·exact .inl e
   ·rw[iN (by omega)]at h
    exact .inr ⟨h0,h⟩
  · rintro(rfl| ⟨h0,h⟩)
    ·refine⟨hv,?_⟩
     rw[iP rfl,iP (by omega)];rfl
    · refine⟨h0,?_⟩
      by_cases e:q=v
      · subst e
        rw[iP rfl,iP (by omega)];rfl
      · rw[iN (by omega)]
        exact h
structure Cl (n:Int) (es:List S116) (on m:List Bool) (xs:List Int):Prop where
 len:(m.length:Int)=n
 mark:∀q,Mk m q↔q∈xs
 cnt:xs.length+m.count false=m.length
 eps:∀q∈xs,Eps es (Mk on) q
 sub:∀q,Mk on q→q∈xs
theorem Cl.push{n:Int}{es:List S116}{on m:List Bool}{xs:List Int}(h:Cl n es on m xs){v:Int}(h0:0≤v)(h1:v<n)(hf:rdOf false m v=false)(he:Eps es (Mk on) v):Cl n es on (m.set v.toNat true) (xs++ [v]):=by
 have hl:=h.len;refine⟨by rw[List.length_set];exact hl,fun q=>?_,?_,fun q hq=>?_,fun q hq=>List.mem_append_left _ (h.sub q hq)⟩
 ·rw[mk_set m v q h0 (by omega),h.mark q,List.mem_append,List.mem_singleton]
  exact Or.comm
 ·have hlt:v.toNat<m.length:=by omega
  have hg:m[v.toNat]=false:=by
   unfold rdOf at hf;rw[List.getD_eq_getElem?_getD,List.getElem?_eq_getElem hlt]at hf;exact hf
  rw[List.count_set hlt,hg,List.length_append,List.length_set];have hc:=h.cnt;have hp:0<m.count false:=List.count_pos_iff.2 (by rw[←hg];exact List.getElem_mem _);simp;omega
 ·rcases List.mem_append.1 hq with hq|hq
  ·exact h.eps q hq
  ·rw[List.mem_singleton.1 hq]
   exact he
def Shut_(es:List S116)(xs:List Int)(x:Int):Prop:=∀e∈es,e.f2= []→e.f0=x→e.f1∈xs
def GoodC(n:Int)(es:List S116)(on:List Bool)(g:Nat→Option (List Bool)):Prop:=∃out,Ev g out∧(out.length:Int)=n∧∀q,Mk out q↔Eps es (Mk on) q
theorem rdE_mem{es:List S116}{i:Nat}(h:i<es.length):rd_T116 es (i:Int)=es[i]:=by simp[rd_T116,h]
theorem rd_app(xs:List Int)(v:Int)(j:Nat)(h:j<xs.length):rd (xs++ [v]) (j:Int)=rd xs (j:Int):=by
 rw[rd_get _ _ (by simp;omega),rd_get _ _ h,List.getElem_append_left h]
theorem close_l1{n:Int}{es:List S116}{en:List S138}{on:List Bool}(hR:NfaR n es en):∀(d j:Nat) (m:List Bool) (xs:List Int),n.toNat-j=d→Cl n es on m xs→(∀j':Nat,j'<j→j'<xs.length∧Shut_ es xs (rd xs (j':Int)))→GoodC n es on (fun k=>spec_l6Close.l1 k m xs (j:Int) n es en):=by
  intro d
  induction d with
  | zero=>
    intro j m xs hd hC hS;have hl:=hC.len;have hc:=hC.cnt;refine⟨m,?_,hl,fun q=>⟨fun hq=>hC.eps q ((hC.mark q).1 hq),fun hq=>?_⟩⟩
    ·rw[ev_succ]
     simp only[spec_l6Close.l1,ev_ite];rw[iN (by omega)];exact ev_some.2 rfl
    · rw[hC.mark]
      induction hq with
      |base hq=>exact hC.sub _ hq
      | step he h0 _ ih=>
        obtain⟨j',hj',hx⟩:=List.mem_iff_getElem.1 ih;exact(hS j' (by omega)).2 _ he h0 (by rw[rd_get _ _ hj',hx])
  | succ d ihd =>
    intro j m xs hd hC hS;by_cases hj:j<xs.length;rotate_left
    · have hl:=hC.len
      refine⟨m,?_,hl,fun q=>⟨fun hq=>hC.eps q ((hC.mark q).1 hq),fun hq=>?_⟩⟩
      · rw[ev_succ]
        simp only[spec_l6Close.l1,ev_ite];rw[iN (by omega)];exact ev_some.2 rfl
      · rw[hC.mark]
        induction hq with
        |base hq=>exact hC.sub _ hq
        | step he h0 _ ih=>
          obtain⟨j',hj',hx⟩:=List.mem_iff_getElem.1 ih;exact(hS j' (by omega)).2 _ he h0 (by rw[rd_get _ _ hj',hx])
    have hl2 : ∀i:Nat,i≤es.length→∀(m:List Bool) (xs:List Int),j<xs.length→Cl n es on m xs→(∀j':Nat,j'<j→j'<xs.length∧Shut_ es xs (rd xs (j':Int)))→Shut_ (es.take i) xs (rd xs (j:Int))→GoodC n es on (fun k=>spec_l6Close.l2 k m xs (j:Int) (i:Int) n es en):=by
      refine down es.length _ ?_ ?_
      · intro m xs hj hC hS hX
        rw[List.take_length]at hX;obtain⟨out,e,h⟩:=ihd (j+1) m xs (by omega) hC (fun j' hj'=>by
          rcases Nat.lt_or_eq_of_le (Nat.lt_succ_iff.1 hj')with h|rfl
          ·exact hS j' h
          ·exact⟨hj,hX⟩)
        refine⟨out,?_,h⟩;have hc:=hC.cnt;have hl:=hC.len;have hn:=hR.size;rw[ev_succ];simp only[spec_l6Close.l2,ev_ite];rw[iN (by omega),wrap_succ (m:=4000) (by omega) (by omega)];exact e
      · intro i hi ih m xs hj hC hS hX
        have hc:=hC.cnt;have hl:=hC.len;have hn:=hR.size;have hf:=hR.few;obtain⟨hr0,hr1,_⟩:=hR.edge es[i] (List.getElem_mem hi);have htake:es.take (i+1)=es.take i++ [es[i]]:=List.take_succ_eq_append_getElem hi;have skip:(es[i].f2= []→es[i].f0=rd xs (j:Int)→es[i].f1∈xs)→GoodC n es on (fun k=>spec_l6Close.l2 k m xs (j:Int) ((i+1:Nat):Int) n es en):=by
          intro hx;refine ih m xs hj hC hS (fun e he h0 h1=>?_);rw[htake]at he;rcases List.mem_append.1 he with he|he
          ·exact hX e he h0 h1
          · rw[List.mem_singleton.1 he]at h0 h1 ⊢
            exact hx h0 h1
        have pre:∀out,Ev (fun k=>if es[i].f0=rd xs (j:Int)then(if(es[i].f2.length:Int)=0 then(if rdOf false m es[i].f1=true then spec_l6Close.l2 k m xs (j:Int) ((i+1:Nat):Int) n es en else spec_l6Close.l2 k (m.set es[i].f1.toNat true) (xs++ [es[i].f1]) (j:Int) ((i+1:Nat):Int) n es en)else spec_l6Close.l2 k m xs (j:Int) ((i+1:Nat):Int) n es en)else spec_l6Close.l2 k m xs (j:Int) ((i+1:Nat):Int) n es en) out→Ev (fun k=>spec_l6Close.l2 k m xs (j:Int) (i:Int) n es en) out:=by
          intro out h;rw[ev_succ];simp only[spec_l6Close.l2,ev_ite,rdE_mem hi]at h ⊢;rw[iP (by omega),iP (by omega),iP (by omega),iP (by omega),wrap_succ hi (by omega)];by_cases a1:es[i].f0=rd xs (j:Int)
          · rw [iP a1]at h ⊢
            by_cases a2:(es[i].f2.length:Int)=0
            · rw[iP a2]at h ⊢
              rw[iP hr1.1,iP (by omega)];by_cases a3:rdOf false m es[i].f1=true
              · rw[iP a3]at h ⊢
                exact h
              · rw[iN a3]at h ⊢
                rw[iP (by omega)];exact h
            · rw[iN a2]at h ⊢
              exact h
          · rw[iN a1]at h ⊢
            exact h
        by_cases c1:es[i].f0=rd xs (j:Int);rotate_left
        · obtain⟨out,e,h⟩:=skip (fun _ h=>absurd h c1)
          exact⟨out,pre out (by simp only[ev_ite];rw[iN c1];exact e),h⟩
        by_cases c2:es[i].f2= [];rotate_left
        · obtain⟨out,e,h⟩:=skip (fun h _=>absurd h c2)
          refine⟨out,pre out ?_,h⟩;simp only[ev_ite];rw[iP c1,iN (fun h=>c2 (List.eq_nil_of_length_eq_zero (by omega)))];exact e
        cases c3:rdOf false m es[i].f1
        · have hx:rd xs (j:Int)∈xs:=by rw[rd_get _ _ hj];exact List.getElem_mem _
          have hC2:=hC.push hr1.1 hr1.2 c3 (.step (List.getElem_mem hi) c2 (by rw[c1];exact hC.eps _ hx));obtain⟨out,e,h⟩:=ih (m.set es[i].f1.toNat true) (xs++ [es[i].f1]) (by simp;omega) hC2 (fun j' hj'=>by
            obtain⟨a,b⟩:=hS j' hj';refine⟨by simp;omega,?_⟩;rw[rd_app _ _ _ a];exact fun e he h0 h1=>List.mem_append_left _ (b e he h0 h1)) (by
            rw[rd_app _ _ _ hj];intro e he h0 h1;rw[htake]at he;rcases List.mem_append.1 he with he|he
            ·exact List.mem_append_left _ (hX e he h0 h1)
            · rw[List.mem_singleton.1 he]
              exact List.mem_append_right _ (List.mem_singleton_self _))
          refine⟨out,pre out ?_,h⟩;simp only[ev_ite,c3];rw[iP c1,iP (by rw[c2];rfl),iN (by decide)];exact e
        · obtain⟨out,e,h⟩:=skip (fun _ _=>(hC.mark _).1 ⟨hr1.1,c3⟩)
          refine⟨out,pre out ?_,h⟩;simp only[ev_ite,c3];rw[iP c1,iP (by rw[c2];rfl),iP (by trivial)];exact e
    obtain⟨out,e,h⟩:=hl2 0 (by omega) m xs hj hC hS (fun e he=>by simp at he);refine⟨out,?_,h⟩;rw[ev_succ];simp only[spec_l6Close.l1,ev_ite];rw[iP (by omega)];exact e
theorem close_ok{n:Int}{es:List S116}{en:List S138}{on:List Bool}(hR:NfaR n es en)(hon:(on.length:Int)=n):GoodC n es on (fun k=>spec_l6Close.f k n es en on):=by
  have hn:=hR.size;have key:=down n.toNat (fun i=>∀xs:List Int,(∀q,q∈xs↔(Mk on q∧q<(i:Int)))→xs.length+(on.take i).count false=i→GoodC n es on (fun k=>spec_l6Close.l0 k on xs (i:Nat) n es en)) ?_ ?_ 0 (by omega) [] (fun q=>by simp[Mk];omega) (by simp)
  ·obtain⟨out,e,h⟩:=key
   refine⟨out,?_,h⟩;unfold spec_l6Close.f;simp only[Option.bind_some,ev_ite,List.nil_append];rw[iP (by simp;omega)];exact e
  ·intro xs hx hc
   rw[List.take_of_length_le (by omega)]at hc;obtain⟨out,e,h⟩:=close_l1 hR _ 0 on xs rfl ⟨hon,fun q=>by rw[hx q];exact⟨fun h=>⟨h,by have:=h.lt;omega⟩,fun h=>h.1⟩,by omega,fun q hq=> .base ((hx q).1 hq).1,fun q hq=>(hx q).2 ⟨hq,by have:=hq.lt;omega⟩⟩ (fun j' hj'=>by omega);refine⟨out,?_,h⟩;rw[ev_succ];simp only[spec_l6Close.l0,ev_ite];rw[iN (by omega)];exact e
  · intro i hi ih xs hx hc
    have hil:i<on.length:=by omega
    have hg:rdOf false on (i:Int)=on[i]:=by
     unfold rdOf;rw[Int.toNat_natCast,List.getD_eq_getElem?_getD,List.getElem?_eq_getElem hil];rfl
    have htk:on.take (i+1)=on.take i++ [on[i]]:=List.take_succ_eq_append_getElem hil;cases c:rdOf false on (i:Int)
    · obtain⟨out,e,h⟩:=ih xs (fun q=>by
        rw[hx q];refine⟨fun h=>⟨h.1,by have:=h.2;omega⟩,fun h=>⟨h.1,?_⟩⟩;have h2:=h.2;rcases Int.lt_or_eq_of_le (show q≤(i:Int) by omega)with h3|h3
        ·exact h3
        · have:=h.1.2
          rw[h3,c]at this;cases this) (by rw[htk,List.count_append,←hg,c];simp;omega)
      refine⟨out,?_,h⟩;rw[ev_succ];simp only[spec_l6Close.l0,ev_ite,c];rw[iP (by omega),iP (by omega),iP (by omega),iN (by decide),wrap_succ hi (by omega)];exact e
    · obtain⟨out,e,h⟩:=ih (xs++ [(i:Int)]) (fun q=>by
        rw[List.mem_append,List.mem_singleton,hx q];constructor
        · rintro(h|rfl)
          ·exact⟨h.1,by have:=h.2;omega⟩
          ·exact⟨⟨by omega,c⟩,by omega⟩
        · intro h
          have h2:=h.2;rcases Int.lt_or_eq_of_le (show q≤(i:Int) by omega)with h3|h3
          ·exact .inl ⟨h.1,h3⟩
          ·exact .inr h3) (by rw[htk,List.count_append,←hg,c];simp;omega)
      refine⟨out,?_,h⟩;rw[ev_succ];simp only[spec_l6Close.l0,ev_ite,c];rw[iP (by omega),iP (by omega),iP (by omega),iP (by trivial),iP (by omega),wrap_succ hi (by omega)];exact e
def ByB(es:List S116)(on:List Bool)(b:Int)(q:Int):Prop:=∃e∈es,Mk on e.f0∧e.f1=q∧inAny e.f2 b.toNat=true
def GoodS(n:Int)(es:List S116)(on:List Bool)(b:Int)(g:Nat→Option (List Bool)):Prop:=∃out,Ev g out∧(out.length:Int)=n∧∀q,Mk out q↔Eps es (ByB es on b) q
theorem step_ok{n:Int}{es:List S116}{en:List S138}{on:List Bool}(hR:NfaR n es en)(hon:(on.length:Int)=n)(b:Int)(hb:0≤b∧b≤255):GoodS n es on b (fun k=>spec_l6Step.f k n es en on b):=by
  have hn:=hR.size;have hf:=hR.few;have key:=down es.length (fun i=>∀m:List Bool,(m.length:Int)=n→(∀q,Mk m q↔ByB (es.take i) on b q)→GoodS n es on b (fun k=>spec_l6Step.l0 k on b m (i:Nat) n es en)) ?_ ?_ 0 (by omega) (List.replicate n.toNat false) (by rw[List.length_replicate];omega) (fun q=>by
   constructor
   ·intro h
    have h1:=h.2;have h2:=h.lt;rw[List.length_replicate]at h2;unfold rdOf at h1;rw[List.getD_eq_getElem?_getD,List.getElem?_replicate]at h1;split at h1<;>simp at h1
   ·rintro⟨e,he,_⟩
    simp at he)
  ·obtain⟨out,e,h⟩:=key
   refine⟨out,?_,h⟩;unfold spec_l6Step.f;simp only[ev_ite];rw[iP (by omega),iP (by omega)];exact e
  ·intro m hm hq
   rw[List.take_length]at hq;obtain⟨out,e,h1,h2⟩:=close_ok hR hm;refine⟨out,?_,h1,fun q=>(h2 q).trans ⟨fun h=>h.imp (fun q hq2=>(hq q).1 hq2),fun h=>h.imp (fun q hq2=>(hq q).2 hq2)⟩⟩;rw[ev_succ];simp only[spec_l6Step.l0,ev_ite];rw[iN (by omega),ev_bind e];exact ev_some.2 rfl
  · intro i hi ih m hm hq
    obtain⟨hr0,hr1,hcl⟩:=hR.edge es[i] (List.getElem_mem hi);have hfew:=classB_few hcl;have htake:es.take (i+1)=es.take i++ [es[i]]:=List.take_succ_eq_append_getElem hi;have hby:∀q,ByB (es.take (i+1)) on b q↔ByB (es.take i) on b q∨(Mk on es[i].f0∧es[i].f1=q∧inAny es[i].f2 b.toNat=true):=by
      intro q;rw[htake];constructor
      · rintro⟨e,he,h⟩
        rcases List.mem_append.1 he with he|he
        ·exact .inl ⟨e,he,h⟩
        · rw[List.mem_singleton.1 he]at h
          exact .inr h
      · rintro(⟨e,he,h⟩|h)
        ·exact⟨e,List.mem_append_left _ he,h⟩
        ·exact⟨es[i],List.mem_append_right _ (List.mem_singleton_self _),h⟩
    have pre:∀out,Ev (fun k=>if rdOf false on es[i].f0=true then spec_l6Step.l1 k on b m (i:Int) 0 n es en es[i].f0 es[i].f1 es[i].f2 else spec_l6Step.l0 k on b m ((i+1:Nat):Int) n es en) out→Ev (fun k=>spec_l6Step.l0 k on b m (i:Int) n es en) out:=by
     intro out h;rw[ev_succ];simp only[spec_l6Step.l0,ev_ite,rdE_mem hi]at h ⊢;rw[iP (by omega),iP (by omega),iP hr0.1,iP (by omega),wrap_succ hi (by omega)];exact h
    cases c:rdOf false on es[i].f0
    · obtain⟨out,e,h⟩:=ih m hm (fun q=>by
        rw[hq q,hby q];exact⟨.inl,fun h=>h.elim id (fun h=>by have:=h.1.2;rw[c]at this;cases this)⟩)
      refine⟨out,pre out ?_,h⟩;simp only[ev_ite,c];rw[iN (by decide)];exact e
    · -- the spans of the edge
      have hin:=down es[i].f2.length (fun s=>∀m:List Bool,(m.length:Int)=n→(∀q,Mk m q↔ByB (es.take i) on b q∨(es[i].f1=q∧inAny (es[i].f2.take s) b.toNat=true))→GoodS n es on b (fun k=>spec_l6Step.l1 k on b m (i:Int) (s:Nat) n es en es[i].f0 es[i].f1 es[i].f2)) ?_ ?_ 0 (by omega) m hm (fun q=>by
        rw[hq q];exact⟨.inl,fun h=>h.elim id (fun h=>by have:=h.2;simp[inAny]at this)⟩)
      · obtain⟨out,e,h⟩:=hin
        refine⟨out,pre out ?_,h⟩;simp only[ev_ite,c];rw[iP (by trivial)];exact e
      · intro m hm hq2
        rw[List.take_length]at hq2;obtain⟨out,e,h⟩:=ih m hm (fun q=>by
          rw[hq2 q,hby q];exact⟨fun h=>h.imp id (fun h=>⟨⟨hr0.1,c⟩,h.1,h.2⟩),fun h=>h.imp id (fun h=>⟨h.2.1,h.2.2⟩)⟩)
        refine⟨out,?_,h⟩;rw[ev_succ];simp only[spec_l6Step.l1,ev_ite];rw[iN (by omega),wrap_succ hi (by omega)];exact e
      · intro s hs ihs m hm hq2
        have hsp:=inAny_take es[i].f2 s hs b.toNat;have hwb:wrap64 b=b:=wrap_id (by omega) (by omega);by_cases d:(rd_T163 es[i].f2 (s:Int)).f0≤b∧b≤(rd_T163 es[i].f2 (s:Int)).f1
        · have hd2:decide ((rd_T163 es[i].f2 (s:Int)).f0≤(b.toNat:Int)∧(b.toNat:Int)≤(rd_T163 es[i].f2 (s:Int)).f1)=true:=decide_eq_true (by omega)
          rw [hd2,Bool.or_true]at hsp;obtain⟨out,e,h⟩:=ihs (m.set es[i].f1.toNat true) (by rw[List.length_set];exact hm) (fun q=>by
            rw[mk_set m es[i].f1 q hr1.1 (by omega),hq2 q,hsp];constructor
            · rintro(rfl|h|h)
              ·exact .inr ⟨rfl,rfl⟩
              ·exact .inl h
              ·exact .inr ⟨h.1,rfl⟩
            · rintro(h|h)
              ·exact .inr (.inl h)
              ·exact .inl h.1.symm)
          refine⟨out,?_,h⟩;rw[ev_succ];simp only[spec_l6Step.l1,ev_ite,spec_l1In_eq,Option.bind_some,hwb];rw[iP (by omega),iP (by omega),decide_eq_true d,iP (by trivial),iP hr1.1,iP (by omega),wrap_succ hs (by omega)];exact e
        · have hd2:decide ((rd_T163 es[i].f2 (s:Int)).f0≤(b.toNat:Int)∧(b.toNat:Int)≤(rd_T163 es[i].f2 (s:Int)).f1)=false:=decide_eq_false (by omega)
          rw[hd2,Bool.or_false]at hsp;obtain⟨out,e,h⟩:=ihs m hm (fun q=>by rw[hq2 q,hsp]);refine⟨out,?_,h⟩;rw[ev_succ];simp only[spec_l6Step.l1,ev_ite,spec_l1In_eq,Option.bind_some,hwb];rw[iP (by omega),iP (by omega),decide_eq_false d,iN (by decide),wrap_succ hs (by omega)];exact e
def accR(m:List Bool):List S138→Int
 | []=> -1
 |e :: r=>if rdOf false m e.f0=true then e.f1 else accR m r
theorem accR_in{m:List Bool}:∀(l:List S138),(∀e∈l,0≤e.f1∧e.f1≤39)→ -1≤accR m l∧accR m l≤39
 | [],_=>by simp[accR]
 | e :: r,h=>by
   unfold accR;split
   · have:=h e (List.mem_cons_self ..)
     omega
   ·exact accR_in r (fun e he=>h e (List.mem_cons_of_mem _ he))
theorem accept_ok{n:Int}{es:List S116}{en:List S138}{m:List Bool}(hR:NfaR n es en)(hm:(m.length:Int)=n):Ev (fun k=>spec_l7Accept.f k n es en m) (accR m en):=by
 have hf:=hR.few;unfold spec_l7Accept.f;refine ev_loop en.length (fun k i=>spec_l7Accept.l0 k m (i:Nat) n es en) (fun i=>accR m (en.drop i)) ?_ ?_ 0 (by omega)
 ·rw[ev_succ,List.drop_length]
  simp[spec_l7Accept.l0,ev_some,accR]
 ·intro i hi ih
  have hr:rd_T138 en (i:Int)=en[i]:=by simp[rd_T138,hi]
  obtain⟨_,h0,h1⟩:=hR.ends i en[i] (List.getElem?_eq_getElem hi);rw[ev_succ,List.drop_eq_getElem_cons hi];simp only[spec_l7Accept.l0,ev_ite,hr,accR];rw[iP (by omega),iP (by omega),iP h0,iP (by omega),wrap_succ hi (by omega)];split
  ·exact ev_some.2 rfl
  ·exact ih
theorem same_ok(a b:List Bool)(hl:a.length=b.length)(hs:a.length≤1000000):Ev (fun k=>spec_l7SameMarks.f k a b) (decide (a=b)):=by
 unfold spec_l7SameMarks.f;have key:=ev_loop a.length (fun k i=>spec_l7SameMarks.l0 k a b (i:Nat)) (fun i=>decide (a.drop i=b.drop i)) ?_ ?_ 0 (by omega)
 ·simpa using key
 ·rw[ev_succ]
  simp only[spec_l7SameMarks.l0,ev_ite];rw[iN (by omega),List.drop_length,List.drop_eq_nil_of_le (by omega)];exact ev_some.2 rfl
 ·intro i hi ih
  have hi2:i<b.length:=by omega
  have h1:rdOf false a (i:Int)=a[i]:=by
   unfold rdOf;rw[Int.toNat_natCast,List.getD_eq_getElem?_getD,List.getElem?_eq_getElem hi];rfl
  have h2:rdOf false b (i:Int)=b[i]:=by
   unfold rdOf;rw[Int.toNat_natCast,List.getD_eq_getElem?_getD,List.getElem?_eq_getElem hi2];rfl
  rw[ev_succ,List.drop_eq_getElem_cons hi,List.drop_eq_getElem_cons hi2];simp only[spec_l7SameMarks.l0,ev_ite,h1,h2];rw[iP (by omega),iP (by omega),iP (by omega),wrap_succ hi (by omega)];by_cases e:a[i]=b[i]
  ·rw[iN (by simp[e])]
   refine ev_congr ih ?_;exact decide_eq_decide.2 ⟨fun h=>by rw[e,h],fun h=>(List.cons.inj h).2⟩
  ·rw[iP (by simp[e])]
   refine ev_some.2 ?_;exact(decide_eq_false (fun h=>e (List.cons.inj h).1)).symm
def setsR(es:List S116):List (List S163):=(es.map fun e=>e.f2).filter fun s=>decide (0<s.length)
theorem blk_onto:∀(l:List Int) (n m:Int),blk l n=some m→∀x,n≤x→x<m→x∈l
  | [],n,m,h,x,h0,h1=>by simp[blk]at h;omega
  | y :: l,n,m,h,x,h0,h1=>by
    unfold blk at h;split at h
    · by_cases e:x=y
      · subst e
        exact List.mem_cons_self ..
      · refine List.mem_cons_of_mem _ (blk_onto l _ m h x ?_ h1)
        omega
    ·simp at h
def addL(S:List (List Bool))(m:List Bool):List (List Bool):=if m∈S then S else S++ [m]
def dR(s:List (List Bool))(i:Int):List Bool:=s.getD i.toNat []
theorem dR_get(S:List (List Bool))(i:Nat)(h:i<S.length):dR S (i:Int)=S[i]:=by
 unfold dR;rw[Int.toNat_natCast,List.getD_eq_getElem?_getD,List.getElem?_eq_getElem h];rfl
theorem dR_mem{S:List (List Bool)}{i:Int}(h0:0≤i)(h:i<S.length):dR S i∈S:=by
 obtain⟨a,rfl⟩:=Int.eq_ofNat_of_zero_le h0;rw[dR_get S a (by omega)];exact List.getElem_mem _
theorem addL_keep(S:List (List Bool))(m:List Bool)(i:Int)(h0:0≤i)(h:i<S.length):dR (addL S m) i=dR S i:=by
 obtain⟨a,rfl⟩:=Int.eq_ofNat_of_zero_le h0;unfold addL;split
 ·rfl
 ·rw[dR_get _ _ (by simp;omega),dR_get _ _ (by omega),List.getElem_append_left (by omega)]
theorem addL_le(S:List (List Bool))(m:List Bool):S.length≤(addL S m).length∧(addL S m).length≤S.length+1:=by
 unfold addL;split
 ·omega
 ·simp
theorem addL_at(S:List (List Bool))(m:List Bool):S.idxOf m<(addL S m).length∧dR (addL S m) (S.idxOf m:Int)=m:=by
 unfold addL;split
 ·rename_i h
  have h1:=List.idxOf_lt_length_of_mem h;exact⟨h1,by rw[dR_get _ _ h1,List.getElem_idxOf h1]⟩
 ·rename_i h
  rw[List.idxOf_eq_length h];refine⟨by simp,?_⟩;rw[dR_get _ _ (by simp),List.getElem_append_right (by omega)];simp
theorem addL_nodup{S:List (List Bool)}(m:List Bool)(h:S.Nodup):(addL S m).Nodup:=by
 unfold addL;split
 ·exact h
 ·rename_i hm
  rw[List.nodup_append];refine⟨h,by simp,fun a ha b hb=>?_⟩;rw[List.mem_singleton.1 hb];intro e;exact hm (e ▸ ha)
theorem addL_mem{S:List (List Bool)}{m x:List Bool}(h:x∈addL S m):x∈S∨x=m:=by
 unfold addL at h;split at h
 ·exact .inl h
 ·rcases List.mem_append.1 h with h|h
  ·exact .inl h
  ·exact .inr (List.mem_singleton.1 h)
def failD:List Int × List (List Int) × List Int × Bool:=([],[],[],false)
theorem find_ok{n:Int}{es:List S116}{en:List S138}(most count:Int)(bs:List Int)(S:List (List Bool))(s:Int)(row:List Int)(k0:Nat)(t:List Bool)(block:List Int)(rows:List (List Int))(acc:List Int)
    (hS:∀m∈S,m.length=t.length)(hsl:S.length≤100000)(htl:t.length≤100000)(hrl:row.length≤100000)(hk0:k0≤100000)(r:List Int × List (List Int) × List Int × Bool)
    (h:if most<((addL S t).length:Int)then r=failD else Ev (fun k=>spec_BuildDfa.l3 k most count bs (addL S t) s (row++ [(S.idxOf t:Int)]) ((k0+1:Nat):Int) n es en block rows acc) r):
    Ev (fun k=>spec_BuildDfa.l4 k most count bs S s row (k0:Int) t (-1) 0 n es en block rows acc) r:=by
  have hw:wrap64 ((k0:Int)+1)=((k0+1:Nat):Int):=by rw[wrap_id (by omega) (by omega)];omega
  have done:∀j:Nat,S.idxOf t=j→j<S.length→∀m:Nat,Ev (fun k=>spec_BuildDfa.l4 k most count bs S s row (k0:Int) t (j:Int) (m:Int) n es en block rows acc) r:=by
    intro j hj hlt m;have hm:t∈S:=List.idxOf_lt_length_iff.1 (by omega);have h2:Ev (fun k=>spec_BuildDfa.j6 k most count bs S s row (k0:Int) t (j:Int) (m:Int) false n es en block rows acc) r:=by
      rw[ev_succ];simp only[spec_BuildDfa.j6,ev_ite];rw[iN (by decide),iN (by omega),hw];unfold addL at h;rw[iP hm,hj]at h;by_cases hb:(S.length:Int)>most
      · rw[iP hb]at h ⊢
        exact ev_some.2 h.symm
      · rw[iN hb]at h ⊢
        rw[iP (by omega)];exact h
    rw[ev_succ];simp only[spec_BuildDfa.l4,ev_ite,decide_eq_false (show ¬((j:Int)<0) by omega)];split
    ·exact h2
    ·exact h2
  refine down S.length (fun m=>m≤S.idxOf t→Ev (fun k=>spec_BuildDfa.l4 k most count bs S s row (k0:Int) t (-1) (m:Int) n es en block rows acc) r) ?_ ?_ 0 (by omega) (by omega)
  ·intro hm
   have hnm:t ∉ S:=fun h=>by have:=List.idxOf_lt_length_of_mem h;omega
   rw[ev_succ];simp only[spec_BuildDfa.l4,ev_ite];rw[iN (by omega),ev_succ];simp only[spec_BuildDfa.j6,ev_ite,Option.bind_some];rw[iN (by decide),iP (by omega),iP (by omega),hw];unfold addL at h;rw[iN hnm,List.idxOf_eq_length hnm]at h;by_cases hb:((S++ [t]).length:Int)>most
   ·rw[iP hb]at h ⊢
    exact ev_some.2 h.symm
   ·rw[iN hb]at h ⊢
    rw[iP (by omega)];exact h
  · intro m hm ih hle
    have hmm:dR S (m:Int)∈S:=dR_mem (by omega) (by omega);rw[ev_succ];simp only[spec_BuildDfa.l4,ev_ite];rw[iP (by omega),decide_eq_true (by omega),ev_succ];simp only[spec_BuildDfa.j6,ev_ite];rw[iP (by trivial),iP (by omega),iP (by omega),wrap_succ hm (by omega)];have hsm:=same_ok (dR S (m:Int)) t (hS _ hmm) (by rw[hS _ hmm];omega);rw[show rd_L11 S (m:Int)=dR S (m:Int)from rfl,ev_bind hsm];simp only[ev_ite,decide_eq_true_eq];by_cases e:dR S (m:Int)=t
    · rw [iP e]
      rw [dR_get S m hm]at e;have hx:S.idxOf t=m:=by
        have h1:S.idxOf t≤m:=by
          rcases Nat.lt_or_ge m (S.idxOf t)with h|h
          ·exact absurd e (List.not_of_lt_findIdx (p:=fun x=>x==t) h |> fun q=>by simpa using q)
          ·exact h
        omega
      exact done m hx hm (m+1)
    · rw[iN e]
      refine ih ?_;rcases Nat.lt_or_eq_of_le hle with h|h
      ·exact h
      · refine absurd ?_ e
        rw[h];have h1:S.idxOf t<S.length:=by omega
        rw[dR_get _ _ h1];exact List.getElem_idxOf h1
inductive Rch (n:Int) (es:List S116) (bs:List Int):List Bool→Prop
 |start {m:List Bool}:(m.length:Int)=n→(∀q,Mk m q↔Eps es (fun q=>q=0) q)→Rch n es bs m
 |step {m out:List Bool} {b:Int}:Rch n es bs m→b∈bs→(out.length:Int)=n→(∀q,Mk out q↔Eps es (ByB es m b) q)→Rch n es bs out
theorem Rch.len{n:Int}{es:List S116}{bs:List Int}{m:List Bool}(h:Rch n es bs m):(m.length:Int)=n:=by
 cases h with
 |start h _=>exact h
 |step _ _ h _=>exact h
def RowOk(es:List S116)(bs:List Int)(S:List (List Bool))(m:List Bool)(row:List Int):Prop:=
 ∀k:Nat,k<row.length→0≤rd row (k:Int)∧rd row (k:Int)<S.length∧∀q,Mk (dR S (rd row (k:Int))) q↔Eps es (ByB es m (rd bs (k:Int))) q
theorem RowOk.add{es:List S116}{bs:List Int}{S:List (List Bool)}{m:List Bool}{row:List Int}(h:RowOk es bs S m row)(t:List Bool):RowOk es bs (addL S t) m row:=by
 intro k hk;obtain⟨a,b,c⟩:=h k hk;have:=(addL_le S t).1;exact⟨a,by omega,by rw[addL_keep S t _ a b];exact c⟩
theorem rd_snoc2(row:List Int)(v:Int)(k:Nat)(hk:k<(row++ [v]).length):rd (row++ [v]) (k:Int)=if k<row.length then rd row (k:Int)else v:=by
 rw[rd_get _ _ hk];split
 ·rename_i h
  rw[List.getElem_append_left h,rd_get _ _ h]
 ·rename_i h
  rw[List.getElem_append_right (by omega)];simp
theorem RowOk.snoc{es:List S116}{bs:List Int}{S:List (List Bool)}{m:List Bool}{row:List Int}(h:RowOk es bs S m row){v:Int}(h0:0≤v)(h1:v<S.length)(hv:∀q,Mk (dR S v) q↔Eps es (ByB es m (rd bs (row.length:Int))) q):RowOk es bs S m (row++ [v]):=by
 intro k hk;rw[rd_snoc2 row v k hk];split
 ·exact h k ‹_›
 ·have hk2:k=row.length:=by simp at hk;omega
  subst hk2;exact⟨h0,h1,hv⟩
structure DfI (n:Int) (es:List S116) (en:List S138) (bs:List Int) (S:List (List Bool)) (s:Nat) (rows:List (List Int)) (acc:List Int):Prop where
 pos:0<S.length
 st:∀q,Mk (dR S 0) q↔Eps es (fun q=>q=0) q
 nod:S.Nodup
 rch:∀m∈S,Rch n es bs m
 le:s≤S.length
 rl:rows.length=s
 al:acc.length=s
 row:∀j:Nat,j<s→(rd_L1 rows (j:Int)).length=bs.length∧RowOk es bs S (dR S (j:Int)) (rd_L1 rows (j:Int))
 acc:∀j:Nat,j<s→rd acc (j:Int)=accR (dR S (j:Int)) en
theorem DfI.add{n:Int}{es:List S116}{en:List S138}{bs:List Int}{S:List (List Bool)}{s:Nat}{rows:List (List Int)}{acc:List Int}(h:DfI n es en bs S s rows acc){t:List Bool}(ht:Rch n es bs t):DfI n es en bs (addL S t) s rows acc:=by
 have hl:=addL_le S t;have hp:=h.pos;have hle:=h.le;refine⟨by omega,by rw[addL_keep S t 0 (by omega) (by omega)];exact h.st,addL_nodup t h.nod,fun m hm=>?_,by omega,h.rl,h.al,fun j hj=>?_,fun j hj=>?_⟩
 ·rcases addL_mem hm with hm|rfl
  ·exact h.rch m hm
  ·exact ht
 ·obtain⟨a,b⟩:=h.row j hj
  rw[addL_keep S t (j:Int) (by omega) (by omega)];exact⟨a,b.add t⟩
 ·rw[addL_keep S t (j:Int) (by omega) (by omega)]
  exact h.acc j hj
theorem rd1_snoc(rows:List (List Int))(v:List Int)(k:Nat)(hk:k<rows.length+1):rd_L1 (rows++ [v]) (k:Int)=if k<rows.length then rd_L1 rows (k:Int)else v:=by
 unfold rd_L1;rw[Int.toNat_natCast,List.getD_eq_getElem?_getD,List.getElem?_eq_getElem (by simp;omega)];split
 ·rename_i h
  rw[List.getElem_append_left h,List.getD_eq_getElem?_getD,List.getElem?_eq_getElem h]
 ·rename_i h
  rw[List.getElem_append_right (by omega)];simp
theorem DfI.next{n:Int}{es:List S116}{en:List S138}{bs:List Int}{S:List (List Bool)}{s:Nat}{rows:List (List Int)}{acc:List Int}(h:DfI n es en bs S s rows acc)(hs:s<S.length){row:List Int}(hr:row.length=bs.length)(hok:RowOk es bs S (dR S (s:Int)) row):DfI n es en bs S (s+1) (rows++ [row]) (acc++ [accR (dR S (s:Int)) en]):=by
 have hrl:=h.rl;have hal:=h.al;refine⟨h.pos,h.st,h.nod,h.rch,hs,by simp;omega,by simp;omega,fun j hj=>?_,fun j hj=>?_⟩
 ·rw[rd1_snoc rows row j (by omega)]
  split
  ·exact h.row j (by omega)
  ·have:j=s:=by omega
   subst this;exact⟨hr,hok⟩
 ·rw[rd_snoc2 acc _ j (by simp;omega)]
  split
  ·exact h.acc j (by omega)
  ·have:j=s:=by omega
   subst this;rfl
def DfaA(n:Int)(es:List S116)(en:List S138)(most:Int)(block bs:List Int)(r:List Int × List (List Int) × List Int × Bool):Prop:=
 (r=failD∧∃S:List (List Bool),S.Nodup∧(∀m∈S,Rch n es bs m)∧most<(S.length:Int))∨
 (r.1=block∧r.2.2.2=true∧∃S:List (List Bool),(S.length:Int)≤most∧DfI n es en bs S S.length r.2.1 r.2.2.1)
theorem dfa_l3{n:Int}{es:List S116}{en:List S138}(hR:NfaR n es en)(most:Int)(hm:1≤most∧most≤1000)(block bs:List Int)(hbl:bs.length≤256)(hb:∀k:Nat,k<bs.length→0≤rd bs (k:Int)∧rd bs (k:Int)≤255)(s:Nat)(rows:List (List Int))(acc:List Int)
    (hN:∀(S:List (List Bool)) (row:List Int),DfI n es en bs S s rows acc→(S.length:Int)≤most→s<S.length→row.length=bs.length→RowOk es bs S (dR S (s:Int)) row→∃r,Ev (fun k=>spec_BuildDfa.l2 k most (bs.length:Int) bs S ((s+1:Nat):Int) n es en block (rows++ [row]) (acc++ [accR (dR S (s:Int)) en])) r∧DfaA n es en most block bs r):
    ∀k:Nat,k≤bs.length→∀(S:List (List Bool)) (row:List Int),DfI n es en bs S s rows acc→(S.length:Int)≤most→s<S.length→row.length=k→RowOk es bs S (dR S (s:Int)) row→∃r,Ev (fun q=>spec_BuildDfa.l3 q most (bs.length:Int) bs S (s:Int) row (k:Int) n es en block rows acc) r∧DfaA n es en most block bs r:=by
  have hn:=hR.size;refine down bs.length _ ?_ ?_
  ·intro S row hI hSl hs hr hok
   have hrl:=hI.rl;have hal:=hI.al;obtain⟨r,e,h⟩:=hN S row hI hSl hs hr hok;have hlen:=(hI.rch _ (dR_mem (i:=(s:Int)) (by omega) (by omega))).len;refine⟨r,?_,h⟩;rw[ev_succ];simp only[spec_BuildDfa.l3,ev_ite];rw[iN (by omega),iP (by omega),iP (by omega),iP (by omega),show rd_L11 S (s:Int)=dR S (s:Int)from rfl,ev_bind (accept_ok hR hlen)];simp only[ev_ite];rw[iP (by omega),wrap_succ (m:=2000) (by omega) (by omega)];exact e
  · intro k hk ih S row hI hSl hs hr hok
    have hmem:=dR_mem (S:=S) (i:=(s:Int)) (by omega) (by omega);have hrc:=hI.rch _ hmem;have hlen:=hrc.len;have hbk:=hb k hk;obtain⟨t,e,ht,hq⟩:=step_ok hR hlen (rd bs (k:Int)) hbk;have htr:Rch n es bs t:= .step hrc (by rw[rd_get bs k hk];exact List.getElem_mem _) ht hq;have hSm:∀m∈S,m.length=t.length:=fun m hm=>by have:=(hI.rch m hm).len;omega
    have hal:=addL_le S t;have hat:=addL_at S t;have pre:∀r,Ev (fun q=>spec_BuildDfa.l4 q most (bs.length:Int) bs S (s:Int) row (k:Int) t (-1) 0 n es en block rows acc) r→Ev (fun q=>spec_BuildDfa.l3 q most (bs.length:Int) bs S (s:Int) row (k:Int) n es en block rows acc) r:=by
     intro r h;rw[ev_succ];simp only[spec_BuildDfa.l3,ev_ite];rw[iP (by omega),iP (by omega),iP (by omega),iP (by omega),iP (by omega),show rd_L11 S (s:Int)=dR S (s:Int)from rfl,ev_bind e];exact h
    by_cases hbig:most<((addL S t).length:Int)
    ·refine⟨failD,pre _ (find_ok most (bs.length:Int) bs S (s:Int) row k t block rows acc hSm (by omega) (by omega) (by omega) (by omega) failD (by rw[iP hbig])), .inl ⟨rfl,addL S t,(hI.add htr).nod,(hI.add htr).rch,hbig⟩⟩
    · have hok2:RowOk es bs (addL S t) (dR (addL S t) (s:Int)) (row++ [(S.idxOf t:Int)]):=by
        rw[addL_keep S t (s:Int) (by omega) (by omega)];refine(hok.add t).snoc (by omega) (by omega) (fun q=>?_);rw[hat.2,hr];exact hq q
      obtain⟨r,er,h⟩:=ih (addL S t) (row++ [(S.idxOf t:Int)]) (hI.add htr) (by omega) (by omega) (by simp;omega) hok2;exact⟨r,pre r (find_ok most (bs.length:Int) bs S (s:Int) row k t block rows acc hSm (by omega) (by omega) (by omega) (by omega) r (by rw[iN hbig];exact er)),h⟩
theorem dfa_l2{n:Int}{es:List S116}{en:List S138}(hR:NfaR n es en)(most:Int)(hm:1≤most∧most≤1000)(block bs:List Int)(hbl:bs.length≤256)(hb:∀k:Nat,k<bs.length→0≤rd bs (k:Int)∧rd bs (k:Int)≤255):
   ∀(d s:Nat) (S:List (List Bool)) (rows:List (List Int)) (acc:List Int),most.toNat-s=d→DfI n es en bs S s rows acc→(S.length:Int)≤most→∃r,Ev (fun q=>spec_BuildDfa.l2 q most (bs.length:Int) bs S (s:Int) n es en block rows acc) r∧DfaA n es en most block bs r:=by
 intro d
 induction d with
 | zero=>
   intro s S rows acc hd hI hSl;have hle:=hI.le;have hs:S.length=s:=by omega
   refine⟨(block,rows,acc,true),?_, .inr ⟨rfl,rfl,S,hSl,by rw[hs];exact hI⟩⟩;rw[ev_succ];simp only[spec_BuildDfa.l2,ev_ite];rw[iN (by omega)];exact ev_some.2 rfl
 | succ d ih=>
   intro s S rows acc hd hI hSl;have hle:=hI.le;by_cases hs:s<S.length
   ·obtain⟨r,e,h⟩:=dfa_l3 hR most hm block bs hbl hb s rows acc (fun S row hI hSl hs hr hok=>ih (s+1) S (rows++ [row]) (acc++ [accR (dR S (s:Int)) en]) (by omega) (hI.next hs hr hok) hSl) 0 (by omega) S [] hI hSl hs rfl (fun k hk=>by simp at hk)
    refine⟨r,?_,h⟩;rw[ev_succ];simp only[spec_BuildDfa.l2,ev_ite];rw[iP (by omega)];exact e
   ·have hs:S.length=s:=by omega
    refine⟨(block,rows,acc,true),?_, .inr ⟨rfl,rfl,S,hSl,by rw[hs];exact hI⟩⟩;rw[ev_succ];simp only[spec_BuildDfa.l2,ev_ite];rw[iN (by omega)];exact ev_some.2 rfl
structure BytesOf (block bs:List Int) (count:Int):Prop where
 len:(bs.length:Int)=count
 byte:∀k:Nat,k<bs.length→0≤rd bs (k:Int)∧rd bs (k:Int)≤255
 of:∀k:Nat,k<bs.length→rd block (rd bs (k:Int))=(k:Int)
theorem dfa_l1{n:Int}{es:List S116}{en:List S138}(hR:NfaR n es en)(most:Int)(hm:1≤most∧most≤1000)(block:List Int)(count:Int)(hl:block.length=256)(hblk:blk block 0=some count)(hc:1≤count∧count≤256):
    ∃r bs,Ev (fun q=>spec_BuildDfa.l1 q most block count (List.replicate count.toNat 0) 255 n es en) r∧BytesOf block bs count∧DfaA n es en most block bs r:=by
  have hn :=hR.size;have hall:=blk_all block 0 count (by omega) hblk;have key:∀b:Nat,b≤256→∀bs:List Int,(bs.length:Int)=count→(∀k:Nat,k<bs.length→(0≤rd bs (k:Int)∧rd bs (k:Int)≤255)∧((∃b':Nat,b≤b'∧b'<256∧rd block (b':Int)=(k:Int))→rd block (rd bs (k:Int))=(k:Int)))→∃r bs',Ev (fun q=>spec_BuildDfa.l1 q most block count bs ((b:Int)-1) n es en) r∧BytesOf block bs' count∧DfaA n es en most block bs' r:=by
    intro b
    induction b with
    | zero=>
      intro _ bs hbl hbs;have hB:BytesOf block bs count:=⟨hbl,fun k hk=>(hbs k hk).1,fun k hk=>(hbs k hk).2 (by
        have:=blk_onto block 0 count hblk (k:Int) (by omega) (by omega);obtain⟨b',h1,h2⟩:=List.mem_iff_getElem.1 this;exact⟨b',by omega,by omega,by rw[rd_get _ _ h1];exact h2⟩)⟩
      have hz:((List.replicate n.toNat false).set (0:Int).toNat true).length=n.toNat:=by rw[List.length_set,List.length_replicate]
      have hmk:∀q,Mk ((List.replicate n.toNat false).set (0:Int).toNat true) q↔q=0:=by
        intro q;rw[mk_set _ 0 q (by omega) (by rw[List.length_replicate];omega)];refine⟨fun h=>h.elim id (fun h=>?_), .inl⟩;have h1:=h.2;unfold rdOf at h1;rw[List.getD_eq_getElem?_getD,List.getElem?_replicate]at h1;split at h1<;>simp at h1
      obtain⟨t,et,ht,hq⟩:=close_ok hR (on:=(List.replicate n.toNat false).set (0:Int).toNat true) (by rw[hz];omega);have hq2:∀q,Mk t q↔Eps es (fun q=>q=0) q:=fun q=>(hq q).trans ⟨fun h=>h.imp (fun q h=>(hmk q).1 h),fun h=>h.imp (fun q h=>(hmk q).2 h)⟩
      have hI:DfI n es en bs [t] 0 [] []:=⟨by simp,by rw[show dR [t] 0=t from rfl];exact hq2,by simp,fun m hm=>by rw[List.mem_singleton.1 hm];exact .start ht hq2,by omega,rfl,rfl,fun j hj=>by omega,fun j hj=>by omega⟩;obtain⟨r,e,h⟩:=dfa_l2 hR most hm block bs (by omega) (fun k hk=>(hbs k hk).1) _ 0 [t] [] [] rfl hI (by simp;omega);refine⟨r,bs,?_,hB,h⟩;rw[ev_succ];simp only[spec_BuildDfa.l1,ev_ite,Option.bind_some];rw[iN (by omega),iP (by omega),iP (by omega),iP (by rw[List.length_replicate];omega),ev_bind et,←hbl];exact e
    | succ b ih=>
      intro h256 bs hbl hbs;have hm:=hall _ (rd_mem (l:=block) (i:=(b:Int)) (by omega) (by omega));obtain⟨r,bs',e,h⟩:=ih (by omega) (bs.set (rd block (b:Int)).toNat ((b:Int) % 256)) (by rw[List.length_set];exact hbl) (fun k hk=>by
        rw[List.length_set]at hk;obtain⟨h1,h2⟩:=hbs k hk;rw[rd_set bs _ _ _ hm.1 (by omega) (by omega)];by_cases e:(k:Int)=rd block (b:Int)
        ·rw[iP e]
         refine⟨by omega,fun _=>?_⟩;rw[show(b:Int) % 256=(b:Int) by omega];exact e.symm
        · rw[iN e]
          refine⟨h1,fun⟨b',g1,g2,g3⟩=>h2 ⟨b',?_,g2,g3⟩⟩;rcases Nat.lt_or_eq_of_le g1 with g|g
          ·exact g
          · subst g
            exact absurd g3.symm e)
      refine⟨r,bs',?_,h⟩;rw[ev_succ];simp only[spec_BuildDfa.l1,ev_ite];rw[show((b+1:Nat):Int)-1=(b:Int) by omega,iP (by omega),iP (by omega),iP (by omega),iP hm.1,iP (by omega),wrap_id (x:=(b:Int)-1) (by omega) (by omega)];exact e
  obtain⟨r,bs,e,h⟩:=key 256 (Nat.le_refl _) (List.replicate count.toNat 0) (by rw[List.length_replicate];omega) (fun k hk=>by
   have h0:rd (List.replicate count.toNat (0:Int)) (k:Int)=0:=by rw[rd_get _ _ hk,List.getElem_replicate]
   rw[h0];exact⟨by omega,fun⟨b',h1,h2,_⟩=>by omega⟩)
  exact⟨r,bs,e,h⟩
theorem dfa_l0{n:Int}{es:List S116}{en:List S138}(hR:NfaR n es en)(most:Int)(r:List Int × List (List Int) × List Int × Bool)
   (h:Ev (fun q=>(spec_Blocks.f q (setsR es)).bind fun bt114=>(if(bt114.1.length:Int)=0 then(some (([]:List Int),([]:List (List Int)),([]:List Int),false))else(if 0≤bt114.2 then(if(bt114.2:Int).toNat≤281474976710656 then(spec_BuildDfa.l1 q most bt114.1 bt114.2 (List.replicate (bt114.2:Int).toNat 0) 255 n es en)else(none))else(none)))) r):
   Ev (fun q=>spec_BuildDfa.l0 q most [] 0 n es en) r:=by
 have hf:=hR.few;have key:=down es.length (fun i=>∀xs:List (List S163),xs.length≤i→setsR es=xs++setsR (es.drop i)→Ev (fun q=>spec_BuildDfa.l0 q most xs (i:Nat) n es en) r) ?_ ?_ 0 (by omega) [] (by simp) (by simp)
 ·exact key
 ·intro xs hx he
  rw[List.drop_length]at he;have he:setsR es=xs:=by simpa[setsR]using he
  subst he;rw[ev_succ];simp only[spec_BuildDfa.l0,ev_ite];rw[iN (by omega)];exact h
 ·intro i hi ih xs hx he
  have hd:es.drop i=es[i] :: es.drop (i+1):=List.drop_eq_getElem_cons hi;rw[ev_succ];simp only[spec_BuildDfa.l0,ev_ite,rdE_mem hi];rw[iP (by omega),iP (by omega),wrap_succ hi (by omega)];by_cases c:(es[i].f2.length:Int)>0
  ·rw[iP c,iP (by omega)]
   refine ih _ (by rw[List.length_append];simp;omega) ?_;rw[he,hd];unfold setsR;rw[List.map_cons,List.filter_cons,iP (decide_eq_true (by omega))];simp
  ·rw[iN c]
   refine ih _ (by omega) ?_;rw[he,hd];unfold setsR;rw[List.map_cons,List.filter_cons,iN (by rw[decide_eq_true_eq];omega)]
theorem BuildDfa_ok{n:Int}{es:List S116}{en:List S138}(hR:NfaR n es en)(most:Int)(hm:1≤most∧most≤1000):
    ∃r,Ev (fun q=>spec_BuildDfa.f q n es en most) r∧((r=failD∧500<(setsR es).length)∨((setsR es).length≤500∧∃block count bs,BlkR (setsR es) block count∧BytesOf block bs count∧DfaA n es en most block bs r)):=by
  have hcl:(setsR es).all classB=true:=by
   rw[List.all_eq_true];intro c hc;obtain⟨e,he,rfl⟩:=List.mem_map.1 (List.mem_filter.1 hc).1;exact(hR.edge e he).2.2
  have fin :∀r,Ev (fun q=>spec_BuildDfa.l0 q most [] 0 n es en) r→Ev (fun q=>spec_BuildDfa.f q n es en most) r:=by
    intro r h;have hb:nfaB n es en=true:=by
      obtain⟨h1,h2,h3,h4⟩:=hR;unfold nfaB;rw[decide_eq_true h1,decide_eq_true h2.1,decide_eq_true h2.2];have e1:es.all (edgeB n)=true:=by
        rw[List.all_eq_true];intro e he;obtain⟨a,b,c⟩:=h3 e he;unfold edgeB;rw[decide_eq_true (by omega),decide_eq_true (by omega),c];rfl
      have e2:∀(l:List S138) (i:Nat),(∀(j:Nat) (e:S138),l[j]? =some e→e.f1=((i+j:Nat):Int)∧0≤e.f0∧e.f0<n)→endsB n i l=true:=by
        intro l
        induction l with
        |nil=>intro i _;rfl
        | cons x l ih=>
          intro i h;have hx:=h 0 x rfl;unfold endsB;rw[decide_eq_true (by simpa using hx.1),decide_eq_true (by omega),ih (i+1) (fun j e he=>by
            have:=h (j+1) e (by rw[List.getElem?_cons_succ];exact he);exact⟨by rw[this.1];congr 1;omega,this.2⟩)]
          rfl
      rw[e1,e2 en 0 (fun j e he=>by simpa using h4 j e he)];rfl
    unfold spec_BuildDfa.f;rw[ev_bind (NfaOk_ok n es en),hb];simp only[spec_l1In_eq,Option.bind_some,ev_ite];rw[iP (by trivial),decide_eq_true hm,ev_succ];simp only[spec_BuildDfa.j0,Bool.not_true,Bool.false_eq_true,if_false];exact h
  by_cases h5:(setsR es).length≤500
  ·have hB:=blocksR_true h5 hcl
   obtain⟨r,bs,e,h1,h2⟩:=dfa_l1 hR most hm _ _ hB.len hB.blk hB.pos;refine⟨r,fin r (dfa_l0 hR most r ?_), .inr ⟨h5,_,_,bs,hB,h1,h2⟩⟩;have hlen:=hB.len;have hpos:=hB.pos;rw[ev_bind (Blocks_ok _)];simp only[ev_ite];rw[iN (by omega),iP (by omega),iP (by omega)];exact e
  ·refine⟨failD,fin failD (dfa_l0 hR most failD ?_), .inl ⟨rfl,by omega⟩⟩
   rw[ev_bind (Blocks_ok _)];unfold blocksR;rw[iN (fun h=>h5 h.1)];simp only[ev_ite];rw[iP (by rfl)];exact ev_some.2 rfl
theorem BuildDfa_none{n:Int}{es:List S116}{en:List S138}(most:Int)(h:nfaB n es en=false∨¬(1≤most∧most≤1000)):Ev (fun q=>spec_BuildDfa.f q n es en most) failD:=by
 have hj:∀q',Ev (fun k=>spec_BuildDfa.j0 k most q' n es en) failD∨q'=false:=by
  intro q';cases q'
  ·exact .inr rfl
  ·left
   rw[ev_succ];simp only[spec_BuildDfa.j0,if_true];exact ev_some.2 rfl
 unfold spec_BuildDfa.f;rw[ev_bind (NfaOk_ok n es en)];simp only[spec_l1In_eq,Option.bind_some,ev_ite];cases hb:nfaB n es en
 ·rw[iN (by decide)]
  rcases hj true with h|h
  ·exact h
  ·cases h
 ·rw[iP (by trivial)]
  rcases h with h|h
  ·rw[hb]at h;cases h
  ·rw[decide_eq_false h]
   rcases hj true with h|h
   ·exact h
   ·cases h
theorem DfaA.right{n:Int}{es:List S116}{en:List S138}(hR:NfaR n es en){most:Int}(hm:most≤1000){block bs:List Int}{count:Int}{sets:List (List S163)}{r:List Int × List (List Int) × List Int × Bool}(hB:BlkR sets block count)(hb:BytesOf block bs count)(h:DfaA n es en most block bs r)(hr:r.2.2.2=true):dfaB r.1 r.2.1 r.2.2.1=true∧(r.2.1.length:Int)≤most:=by
 rcases h with⟨rfl,_⟩| ⟨h1,_,S,hS,hI⟩
 ·cases hr
 have hrl:=hI.rl;have hal:=hI.al;have hp:=hI.pos;have hbl:=hb.len;refine⟨?_,by omega⟩;unfold dfaB;rw[h1,hB.blk,decide_eq_true (by omega),decide_eq_true (by omega)];simp only[Bool.true_and,Bool.and_eq_true,List.all_eq_true,decide_eq_true_eq];refine⟨fun x hx=>?_,hB.len,fun row hrow=>?_⟩
 ·obtain⟨j,hj,rfl⟩:=List.mem_iff_getElem.1 hx
  rw[←rd_get _ _ hj,hI.acc j (by omega)];exact accR_in en (fun e he=>by
   obtain⟨i,hi,rfl⟩:=List.mem_iff_getElem.1 he;have:=hR.ends i _ (List.getElem?_eq_getElem hi);have:=hR.few;omega)
 ·obtain⟨j,hj,rfl⟩:=List.mem_iff_getElem.1 hrow
  obtain⟨a,b⟩:=hI.row j (by omega);have hg:rd_L1 r.2.1 (j:Int)=r.2.1[j]:=by
   unfold rd_L1;rw[Int.toNat_natCast,List.getD_eq_getElem?_getD,List.getElem?_eq_getElem hj];rfl
  rw[hg]at a b;unfold rowB;simp only[Bool.and_eq_true,decide_eq_true_eq,List.all_eq_true];refine⟨by omega,fun x hx=>?_⟩;obtain⟨k,hk,rfl⟩:=List.mem_iff_getElem.1 hx;obtain⟨c,d,_⟩:=b k hk;rw[rd_get _ _ hk]at c d;omega
theorem BuildNfa_ok(l:List S67)(hl:∀x∈l,x.f0.length≤1048576)(hk:∀x∈l,∀y∈x.f0,y.f2.length≤9223372036854775807):∃(n:Int) (es:List S116) (en:List S138) (b:Bool),Ev (fun k=>spec_BuildNfa.f k l) (n,es,en,b)∧(b=true→NfaR n es en)∧(b=false→n=0∧es= []∧en= []):=by
  have e2:=spec_BuildNfa_ev l hl hk;have fin:∀(n:Int) (es:List S116) (en:List S138) (b:Bool),Ev (fun k=>spec_BuildNfa.g k l) (((n,es),en),b)→Ev (fun k=>spec_BuildNfa.f k l) (n,es,en,b):=by
   intro n es en b h;unfold spec_BuildNfa.f;rw[ev_bind h];exact ev_some.2 rfl
  unfold nfaA at e2;cases hb:okRxs l
  ·rw[hb,iN (by decide)]at e2
   exact⟨0,[],[],false,fin _ _ _ _ e2,(fun h=>by cases h),fun _=>⟨rfl,rfl,rfl⟩⟩
  · rw [hb,iP rfl]at e2
    obtain⟨p1,p2⟩:=rxs_parts hb;have ha:=up_ag l p2 l.length (Nat.le_refl _);unfold nfaP at e2;cases hf:fullN (upN timesI l l.length).1
    · rw[hf,iN (by decide)]at e2
      rcases ha with ha| ⟨a1,_⟩
      · have hi:=upS_in l p2 l.length (Nat.le_refl _)
        have hen:=upN_ends timesS l l.length;rw[←ha]at hi hen;generalize upN timesI l l.length=q at *;obtain⟨⟨n,es⟩,en⟩:=q;have hs:=(Bn.small (s:=(n,es)) (by have:=hi.1.1;show 0≤n;dsimp only at this;omega) hf);have hnf:¬(n>3000∨(es.length:Int)>12000):=fun h=>by rw[(full_iff (n,es)).2 h]at hf;cases hf
        have h1:=hi.1.1;dsimp only at h1 hen;exact⟨n,es,en,true,fin _ _ _ _ e2,fun _=>⟨by omega,by omega,hi.1.2,hi.2⟩,fun h=>by cases h⟩
      · rw[hf]at a1
        cases a1
    ·rw[hf,iP rfl]at e2
     exact⟨0,[],[],false,fin _ _ _ _ e2,(fun h=>by cases h),fun _=>⟨rfl,rfl,rfl⟩⟩
def DfaD(b:List Int)(g:Nat→Option (List Int × List (List Int) × List Int × Int)):Prop:=∃d0 d1 d2 q,Ev g (d0,d1,d2,q)∧Dr b q∧dfaB d0 d1 d2=true∧d1.length≤60
def blkD(n:Int):Nat→List Int
 |0=>[]
 |b+1=>blkD n b++ [if 97≤(b:Int)∧(b:Int)<96+n then(b:Int)-96 else 0]
theorem blkD_length(n:Int):∀b,(blkD n b).length=b
 |0=>rfl
 |b+1=>by simp[blkD,blkD_length n b]
theorem blkD_1:blk (blkD 1 256) 0=some 1:=by kernel_rfl
theorem blkD_2:blk (blkD 2 256) 0=some 2:=by kernel_rfl
theorem blkD_3:blk (blkD 3 256) 0=some 3:=by kernel_rfl
theorem blkD_ok{n:Int}(h:1≤n∧n≤3):blk (blkD n 256) 0=some n:=by
 have h:n=1∨n=2∨n=3:=by omega
 rcases h with rfl|rfl|rfl
 ·exact blkD_1
 ·exact blkD_2
 ·exact blkD_3
theorem dfa_rnd{b:List Int}{p:Int}(hp:Dr b p):DfaD b (fun k=>spec_l1Rd_dfa.j0 k b p):=by
  have hl:b.length≤1048576:=hp.2.2.2;obtain⟨v,q,e,v0,v1,hq⟩:=below_ok hp 3;have v1:=v1 (by omega);obtain⟨n,hnv⟩:∃n,1+v=n:=⟨_,rfl⟩;have hn:1≤n∧n≤3:=by omega
  have hwv:wrap64 (1+v)=n:=(wrap_id (by omega) (by omega)).trans hnv
  -- the rows
  have hrows:∀(s:Nat) (d:Nat) (m:Int) (rows:List (List Int)) (acc:List Int) (p:Int),1≤m→m≤7→m.toNat-s=d→s≤m.toNat→rows.length=s→acc.length=s→(∀r∈rows,(r.length:Int)=n∧∀x∈r,0≤x∧x≤m-1)→(∀x∈acc, -1≤x∧x≤39)→Dr b p→DfaD b (fun k=>spec_l1Rd_dfa.l1 k n m (s:Int) b p (blkD n 256) rows acc):=by
    intro s d
    induction d generalizing s with
    | zero=>
      intro m rows acc p h1 h7 hd hs hr ha hrow hacc hp;refine⟨blkD n 256,rows,acc,p,?_,hp,?_,by omega⟩
      · rw[ev_succ]
        simp only[spec_l1Rd_dfa.l1,ev_ite];rw[iN (by omega)];exact ev_some.2 rfl
      · unfold dfaB
        rw[blkD_ok hn,decide_eq_true (by omega),decide_eq_true (by omega)];simp only[Bool.true_and,Bool.and_eq_true,List.all_eq_true,decide_eq_true_eq];refine⟨hacc,blkD_length n 256,fun r hrm=>?_⟩;unfold rowB;simp only[Bool.and_eq_true,decide_eq_true_eq,List.all_eq_true];obtain⟨a,c⟩:=hrow r hrm;exact⟨a,fun x hx=>by have:=c x hx;omega⟩
    | succ d ih=>
      intro m rows acc p h1 h7 hd hs hr ha hrow hacc hp;have hrow2:=down n.toNat (fun k0=>∀(row:List Int) (p:Int),row.length=k0→(∀x∈row,0≤x∧x≤m-1)→Dr b p→DfaD b (fun k=>spec_l1Rd_dfa.l2 k n m (s:Int) row (k0:Nat) b p (blkD n 256) rows acc)) ?_ ?_ 0 (by omega) [] p rfl (fun x hx=>by cases hx) hp
      · obtain⟨d0,d1,d2,q,e,h⟩:=hrow2
        refine⟨d0,d1,d2,q,?_,h⟩;rw[ev_succ];simp only[spec_l1Rd_dfa.l1,ev_ite];rw[iP (by omega)];exact e
      · intro row p hrl hx hp
        obtain⟨a,q,e,a0,a1,hq⟩:=below_ok hp 4;have a1:=a1 (by omega);obtain⟨d0,d1,d2,q2,e2,h⟩:=ih (s+1) m (rows++ [row]) (acc++ [a-1]) q h1 h7 (by omega) (by omega) (by simp;omega) (by simp;omega) (fun r hr=>by
          rcases List.mem_append.1 hr with hr|hr
          ·exact hrow r hr
          · rw[List.mem_singleton.1 hr]
            exact⟨by omega,hx⟩) (fun x hx=>by
          rcases List.mem_append.1 hx with hx|hx
          ·exact hacc x hx
          · rw[List.mem_singleton.1 hx]
            omega) hq
        refine⟨d0,d1,d2,q2,?_,h⟩;rw[ev_succ];simp only[spec_l1Rd_dfa.l2,ev_ite,e,Option.bind_some];rw[iN (by omega),iP (by omega),iP (by omega),wrap_succ (m:=1000) (by omega) (by omega),wrap_id (x:=a-1) (by omega) (by omega)];exact e2
      · intro k0 hk ihk row p hrl hx hp
        obtain⟨a,q,e,a0,a1,hq⟩:=below_ok hp m;have a1:=a1 (by omega);obtain⟨d0,d1,d2,q2,e2,h⟩:=ihk (row++ [a]) q (by simp;omega) (fun x hx2=>by
          rcases List.mem_append.1 hx2 with hx2|hx2
          ·exact hx x hx2
          · rw[List.mem_singleton.1 hx2]
            omega) hq
        refine⟨d0,d1,d2,q2,?_,h⟩;rw[ev_succ];simp only[spec_l1Rd_dfa.l2,ev_ite,e,Option.bind_some];rw[iP (by omega),iP (by omega),wrap_succ (m:=1000) (by omega) (by omega)];exact e2
  -- the blocks
  have hblk:=down 256 (fun i=>∀p:Int,Dr b p→DfaD b (fun k=>spec_l1Rd_dfa.l0 k n (i:Nat) b p (blkD n i))) ?_ ?_ 0 (by omega) q hq
  ·obtain⟨d0,d1,d2,q2,e2,h⟩:=hblk
   refine⟨d0,d1,d2,q2,?_,h⟩;rw[ev_succ];simp only[spec_l1Rd_dfa.j0,e,Option.bind_some,hwv];exact e2
  ·intro p hp
   have hm:mn 7 (wrap64 (1+wrap64 ((b.length:Int) / 5)))≤7∧1≤mn 7 (wrap64 (1+wrap64 ((b.length:Int) / 5))):=by
    rw[wrap_id (x:=(b.length:Int) / 5) (by omega) (by omega),wrap_id (by omega) (by omega)];unfold mn;split<;>omega
   obtain⟨a,q,e,a0,a1,hq⟩:=below_ok hp (mn 7 (wrap64 (1+wrap64 ((b.length:Int) / 5))));have a1:=a1 hm.2;obtain⟨d0,d1,d2,q2,e2,h⟩:=hrows 0 _ (1+a) [] [] q (by omega) (by omega) rfl (by omega) rfl rfl (fun x hx=>by cases hx) (fun x hx=>by cases hx) hq;refine⟨d0,d1,d2,q2,?_,h⟩;rw[ev_succ];simp only[spec_l1Rd_dfa.l0,ev_ite,e,Option.bind_some];rw[iN (by omega),wrap_id (x:=1+a) (by omega) (by omega)];exact e2
  · intro i hi ih p hp
    obtain⟨d0,d1,d2,q2,e2,h⟩:=ih p hp;have hln:=blkD_length n i;refine⟨d0,d1,d2,q2,?_,h⟩;rw[ev_succ];simp only[spec_l1Rd_dfa.l0,ev_ite];rw[iP (by omega),wrap_id (x:=97+n) (by omega) (by omega),wrap_id (x:=97+n-1) (by omega) (by omega),wrap_succ (m:=256) hi (by omega),wrap_id (x:=(i:Int)-96) (by omega) (by omega)];have hst:blkD n (i+1)=blkD n i++ [if 97≤(i:Int)∧(i:Int)<96+n then(i:Int)-96 else 0]:=rfl;rw[hst]at e2;by_cases c1:(i:Int)≥97
    · rw[iP c1]
      by_cases c2:(i:Int)<97+n-1
      · rw[iP c2,iP (by omega)]
        rw[iP (by omega)]at e2;exact e2
      · rw[iN c2,iP (by omega)]
        rw[iN (by omega)]at e2;exact e2
    ·rw[iN c1,iP (by omega)]
     rw[iN (by omega)]at e2;exact e2
theorem dfa_ok{b:List Int}{p:Int}(hp:Dr b p):DfaD b (fun k=>spec_l1Rd_dfa.f k b p):=by
  unfold spec_l1Rd_dfa.f;obtain⟨o,q,e,hq⟩:=once_ok hp 2;simp only[e,Option.bind_some];cases o
  ·simp only[Bool.false_eq_true,if_false]
   exact dfa_rnd hq
  simp only[if_true];obtain⟨l,q2,el,hq2,hl⟩:=rxs_ok hq;obtain⟨n,es,en,ok,en2,h1,h2⟩:=BuildNfa_ok l (fun x hx=>by have:=(hl x hx).1;omega) (fun x hx y hy=>by have:=(hl x hx).2 y hy;omega);obtain⟨d0,d1,d2,q3,e3,hq3,h3,h4⟩:=dfa_rnd hq2;have rnd:∀ {r:List Int × List (List Int) × List Int × Bool},Ev (fun k=>spec_BuildDfa.f k n es en 60) r→(ok=false∨r.2.2.2=false)→DfaD b (fun k=>(spec_l1Rd_rxs.f k b q).bind fun bt104=>((spec_BuildNfa.f k bt104.1).bind fun bt108=>((spec_BuildDfa.f k bt108.1 bt108.2.1 bt108.2.2.1 60).bind fun bt117=>(if bt108.2.2.2=true then(if bt117.2.2.2=true then(some (bt117.1,bt117.2.1,bt117.2.2.1,bt104.2))else(spec_l1Rd_dfa.j0 k b bt104.2))else(spec_l1Rd_dfa.j0 k b bt104.2))))):=by
    intro r er hf;refine⟨d0,d1,d2,q3,?_,hq3,h3,h4⟩;rw[ev_bind el,ev_bind en2,ev_bind er];simp only[ev_ite];rcases hf with hf|hf
    ·rw[iN (by rw[hf];decide)]
     exact e3
    · split
      · rw[iN (by rw[hf];decide)]
        exact e3
      ·exact e3
  cases hok:ok
  ·obtain⟨rfl,rfl,rfl⟩:=h2 hok
   exact rnd (BuildDfa_none 60 (.inl (by rfl))) (.inl hok)
  · have hR:=h1 hok
    obtain⟨r,er,hr⟩:=BuildDfa_ok hR 60 ⟨by omega,by omega⟩;cases hrb:r.2.2.2
    ·exact rnd er (.inr hrb)
    · rcases hr with⟨rfl,_⟩| ⟨_,block,count,bs,hB,hb,hA⟩
      ·cases hrb
      · obtain⟨g1,g2⟩:=hA.right hR (by omega) hB hb hrb
        refine⟨r.1,r.2.1,r.2.2.1,q2,?_,hq2,g1,by omega⟩;rw[ev_bind el,ev_bind en2,ev_bind er];simp only[ev_ite];rw[iP hok,iP hrb];exact ev_some.2 rfl
end Go.Proofs.Ytlecpdpdcocibaa.P
namespace Go.Proofs.Ytlecpdpdcocibaa.P
open Go.RowKit Go.Proofs.YtlecpdpdcocibaaW.PrintWords Go.Proofs.YtlecpdpdcocibaaW.PrintLast Go.Proofs.YtlecpdpdcocibaaEv
set_option linter.unusedVariables false
set_option linter.unusedSimpArgs false
theorem drop_rd1(l:List (List Int))(i:Nat)(h:i<l.length):l.drop i=rd_L1 l (i:Int) :: l.drop (i+1):=by
 rw[drop_cons l [] i h];simp[rd_L1]
theorem spec_DfaOk_l1_ev(l0:List Int)(l1:List (List Int))(l2:List Int)(s:Nat)(t:Int)(R:Bool)(hn:1≤l1.length∧l1.length≤1000)(hs:s<l1.length)(hrow:((rd_L1 l1 (s:Int)).length:Int)=t)(ht:t≤1000000)(hR:Ev (fun k=>spec_DfaOk.l0 k (l1.length:Int) t ((s+1:Nat):Int) l0 l1 l2) R):
   Ev (fun k=>spec_DfaOk.l1 k (l1.length:Int) t (s:Int) 0 l0 l1 l2) (((rd_L1 l1 (s:Int)).all fun x=>decide (0≤x∧x≤(l1.length:Int)-1))&&R):=by
 have h:=ev_loop (rd_L1 l1 (s:Int)).length (fun k i=>spec_DfaOk.l1 k (l1.length:Int) t (s:Int) (i:Nat) l0 l1 l2) (fun i=>(((rd_L1 l1 (s:Int)).drop i).all fun x=>decide (0≤x∧x≤(l1.length:Int)-1))&&R) ?_ ?_ 0 (by omega)
 ·simpa using h
 ·rw[ev_succ]
  simp only[spec_DfaOk.l1,ev_ite];rw[iN (by omega),wrap_succ hs (by omega),List.drop_length];simpa using hR
 ·intro i hi ih
  rw[ev_succ,drop_rd (rd_L1 l1 (s:Int)) i hi];simp only[spec_DfaOk.l1,ev_ite];rw[iP (by omega),iP (by omega),iP (by omega),iP (by omega),iP (by omega),spec_l1In_eq,ev_bind_some,wrap_id (x:=(l1.length:Int)-1) (by omega) (by omega),wrap_succ hi (by omega)];simp only[ev_ite,decide_eq_true_eq,List.all_cons];by_cases hx:0≤rd (rd_L1 l1 (s:Int)) (i:Int)∧rd (rd_L1 l1 (s:Int)) (i:Int)≤(l1.length:Int)-1
  ·rw[iP hx,decide_eq_true hx,Bool.true_and]
   exact ih
  ·rw[iN hx,decide_eq_false hx]
   exact ev_some.2 rfl
theorem spec_DfaOk_l0_ev(l0:List Int)(l1:List (List Int))(l2:List Int)(t:Int)(hn:1≤l1.length∧l1.length≤1000)(h2:l2.length=l1.length)(ht:t≤1000000):
    Ev (fun k=>spec_DfaOk.l0 k (l1.length:Int) t 0 l0 l1 l2) ((l2.all fun x=>decide (-1≤x∧x≤39))&&l1.all (rowB t l1.length)):=by
  have h:=ev_loop l1.length (fun k i=>spec_DfaOk.l0 k (l1.length:Int) t (i:Nat) l0 l1 l2) (fun i=>((l2.drop i).all fun x=>decide (-1≤x∧x≤39))&&(l1.drop i).all (rowB t l1.length)) ?_ ?_ 0 (by omega)
  ·simpa using h
  ·rw[ev_succ]
   simp only[spec_DfaOk.l0,Int.lt_irrefl,if_false];rw[List.drop_length,show l2.drop l1.length= [] by rw[List.drop_eq_nil_iff];omega];exact ev_some.2 rfl
  · intro s hs ih
    rw[ev_succ,drop_rd l2 s (by omega),drop_rd1 l1 s hs];simp only[spec_DfaOk.l0,ev_ite];rw[iP (by omega),iP (by omega),iP (by omega),spec_l1In_eq,ev_bind_some];simp only[ev_ite,decide_eq_true_eq,List.all_cons];by_cases hx: -1≤rd l2 (s:Int)∧rd l2 (s:Int)≤39
    · rw[iP hx,decide_eq_true hx,Bool.true_and,iP (by omega),ev_succ]
      simp only[spec_DfaOk.j2,ev_ite];by_cases e:((rd_L1 l1 (s:Int)).length:Int)=t
      · rw[iN (by simpa using e)]
        refine ev_congr (spec_DfaOk_l1_ev l0 l1 l2 s t _ hn hs e ht ih) ?_;unfold rowB;rw[decide_eq_true e,Bool.true_and];generalize((rd_L1 l1 (s:Int)).all fun x=>decide (0≤x∧x≤(l1.length:Int)-1))=a;generalize((l2.drop (s+1)).all fun x=>decide (-1≤x∧x≤39))=b;generalize List.all _ _=c;cases a<;>cases b<;>cases c<;>rfl
      · rw[iP (by simpa using e)]
        refine ev_some.2 ?_;unfold rowB;rw[decide_eq_false e];simp
    ·rw[iN hx,decide_eq_false hx,ev_succ]
     simp only[spec_DfaOk.j2,if_true];exact ev_some.2 (by simp)
theorem spec_DfaOk_ev(l0:List Int)(l1:List (List Int))(l2:List Int)(hl:l0.length≤1048576):Ev (fun k=>spec_DfaOk.f k l0 l1 l2) (dfaB l0 l1 l2):=by
 unfold spec_DfaOk.f;rw[ev_bind (spec_l7Blocks_ev l0)];have hj:∀t:Int,Ev (fun k=>spec_DfaOk.j0 k (l1.length:Int) t true l0 l1 l2) false:=fun t=>by
  rw[ev_succ];simp only[spec_DfaOk.j0,if_true];exact ev_some.2 rfl
 unfold dfaB;simp only[ev_ite];by_cases h1:(l1.length:Int)<1
 ·rw[iP h1,decide_eq_false (by omega),Bool.false_and]
  exact hj _
 rw[iN h1];by_cases h2:(l1.length:Int)>1000
 ·rw[iP h2,decide_eq_false (by omega),Bool.false_and]
  exact hj _
 rw[iN h2,decide_eq_true (show 1≤(l1.length:Int)∧(l1.length:Int)≤1000 by omega),Bool.true_and];by_cases h3:(l2.length:Int)=l1.length;rotate_left
 ·rw[iN h3,decide_eq_false h3,Bool.false_and]
  exact hj _
 rw[iP h3,decide_eq_true h3,Bool.true_and,ev_succ];unfold blkS;simp only[spec_DfaOk.j0,ev_ite,decide_eq_true_eq];by_cases h256:l0.length=256;rotate_left
 ·rw[iN h256,iP (by omega)]
  refine ev_some.2 ?_;cases blk l0 0<;>simp[h256]
 rw[iP h256];cases hb:blk l0 0 with
 | none=>
   simp only;rw[iP (by omega)];exact ev_some.2 (by simp)
 | some m=>
   have hm:=blk_nonneg l0 0 m (by omega) hb;have hm2:=blk_le l0 0 m (by omega) hb;simp only;rw[iN (by omega),decide_eq_true h256,Bool.true_and];exact spec_DfaOk_l0_ev l0 l1 l2 m (by omega) (by omega) (by omega)
end Go.Proofs.Ytlecpdpdcocibaa.P
namespace Go.Proofs.Ytlecpdpdcocibaa.P
open Go.RowKit Go.Proofs.YtlecpdpdcocibaaW.PrintWords Go.Proofs.YtlecpdpdcocibaaW.PrintLast Go.Proofs.YtlecpdpdcocibaaEv
set_option linter.unusedVariables false
set_option linter.unusedSimpArgs false
def genC(l0:List Int)(l1:List (List Int))(l2:List Int):List S79:=if dfaB l0 l1 l2=true then codeG l0 l1 l2 l1.length else[]
theorem spec_GenCode_ev(l0:List Int)(l1:List (List Int))(l2:List Int)(hl:l0.length≤1048576):Ev (fun k=>spec_GenCode.f k l0 l1 l2) (genC l0 l1 l2,dfaB l0 l1 l2):=by
  obtain⟨k0,h0⟩:=spec_DfaOk_ev l0 l1 l2 hl;have hd:∀n,dfaB l0 l1 l2=true→n≤l1.length→∃k1,∀k,k1≤k→∀s,s<n→spec_l10Default.f k (rowG l0 l1 (s:Int) 256) l1.length=some (bestR (rowG l0 l1 (s:Int) 256) l1.length):=by
    intro n hb;obtain⟨m,hD⟩:=dfaB_true hb
    induction n with
    |zero=>exact fun _=>⟨0,fun k _ s hs=>absurd hs (Nat.not_lt_zero _)⟩
    | succ n ih=>
      intro hn;obtain⟨k1,h1⟩:=ih (by omega);obtain⟨k2,h2⟩:=spec_l10Default_ev (rowG l0 l1 (n:Int) 256) l1.length hD.rows (by rw[rowG_length];omega) (hD.to_ _ (by omega) (by omega));refine⟨max k1 k2,fun k hk s hs=>?_⟩;by_cases e:s=n
      · subst e
        exact h2 k (by omega)
      ·exact h1 k (by omega) s (by omega)
  by_cases hb:dfaB l0 l1 l2=true
  ·obtain⟨k1,h1⟩:=hd l1.length hb (Nat.le_refl _)
   refine⟨max k0 k1,fun k hk=>?_⟩;exact iP (show _∧_ from⟨h0 k (by omega),fun _=>h1 k (by omega)⟩)
  ·refine⟨k0,fun k hk=>?_⟩
   exact iP (show _∧_ from⟨h0 k hk,fun h=>absurd h hb⟩)
theorem genC_arms(l0:List Int)(l1:List (List Int))(l2:List Int):∀x∈genC l0 l1 l2,x.f1.length≤256:=by
 unfold genC;split
 ·intro x hx
  obtain⟨s,_,rfl⟩:=List.mem_map.1 hx;exact armsUp_length _ _ 256
 ·intro x hx
  simp at hx
theorem armsR_few(many:Int):∀(l:List S81) (last:Int), -1≤last→armsR many last l=true→(l.length:Int)≤255-last∨l= []:=by
 intro l
 induction l with
 |nil=>intro last _ _;exact .inr rfl
 | cons a l ih=>
   intro last h0 h;simp only[armsR,Bool.and_eq_true,decide_eq_true_eq]at h
   left
   rcases ih a.f1 (by omega) h.2 with h1|h1
   ·simp only[List.length_cons]
    omega
   ·subst h1
    simp;omega
theorem armsB_few{many:Int}{l:List S81}(h:armsB many l=true):l.length≤256:=by
 rcases armsR_few many l (-1) (by omega) h with h1|h1
 ·omega
 ·simp[h1]
theorem spec_l18Arms_ev(b:S79)(many:Int)(h0:1≤many)(h1:many≤1000):Ev (fun k=>spec_l18Arms.f k b.f0 b.f1 b.f2 many) (blockB many b):=by
  unfold spec_l18Arms.f blockB;simp only[ev_ite];by_cases h6:b.f1.length≤256
  · rw [iN (by omega)]
    have hw:wrap64 (many-1)=many-1:=wrap_id (by omega) (by omega);obtain⟨f0,l,f2⟩:=b;simp only at h6 ⊢;have key:=down l.length (fun i=>∀last:Int,(i=0→last= -1)→(0<i→last=(rd_T81 l ((i-1:Nat):Int)).f1)→Ev (fun k=>spec_l18Arms.l0 k many (i:Nat) f0 l f2) (decide (-1≤f0∧f0≤39)&&decide (0≤f2∧f2≤many-1)&&armsR many last (l.drop i))) ?_ ?_ 0 (by omega) (-1) (fun _=>rfl) (by omega)
    ·exact key
    ·intro last _ _
     rw[ev_succ];simp only[spec_l18Arms.l0,ev_ite,spec_l1In_eq,Option.bind_some,ev_some,hw];rw[iN (by omega),List.drop_length];simp only[armsR,Bool.and_true];split<;>simp_all<;>(intros;omega)
    · intro i hi ih last hl0 hl1
      rw[ev_succ,drop_cons l z81 i hi];have hr:l.getD i z81=rd_T81 l i:=by simp[rd_T81]
      rw[hr];have ih2:=ih (rd_T81 l i).f1 (by omega) (fun _=>by rw[Nat.add_sub_cancel]);simp only[spec_l18Arms.l0,spec_l1In_eq,Option.bind_some,ev_ite,ev_some,armsR,hw];rw[iP (by omega),iP (by omega),wrap_succ hi (by omega)];have hprev:0<i→(0≤wrap64 ((i:Int)-1)∧wrap64 ((i:Int)-1)<l.length∧(rd_T81 l (wrap64 ((i:Int)-1))).f1=last):=by
        intro hp;rw[wrap_id (x:=(i:Int)-1) (by omega) (by omega)];exact⟨by omega,by omega,by rw[hl1 hp,show((i:Int)-1)=((i-1:Nat):Int) by omega]⟩
      generalize(l.drop (i+1))=T at *;generalize rd_T81 l (i:Int)=a at *;generalize hG:(fun k=>spec_l18Arms.l0 k many ((i+1:Nat):Int) f0 l f2)=G at *;generalize(decide (-1≤f0∧f0≤39)&&decide (0≤f2∧f2≤many-1))=D at *;by_cases c1:0≤a.f0∧a.f0≤a.f1
      · rw [iP (by simpa using c1)]
        by_cases c3:a.f1>255
        ·rw[iP c3];simp[show ¬a.f1≤255 by omega]
        rw[iN c3];by_cases c4:0≤a.f2∧a.f2≤many-1
        · rw [iP (by simpa using c4)]
          have hend:(last<a.f0)→Ev G (D&&(decide (0≤a.f0)&&decide (a.f0≤a.f1)&&decide (a.f1≤255)&&decide (last<a.f0)&&decide (0≤a.f2∧a.f2≤many-1)&&armsR many a.f1 T)):=by
            intro h5;refine ev_congr ih2 ?_;simp[c4,c1,show a.f1≤255 by omega,h5]
          by_cases h00:i=0
          · rw[iN (by omega)]
            exact hend (by have:=hl0 h00;omega)
          · obtain⟨h1',h2',h3'⟩:=hprev (by omega)
            rw[iP (by omega),iP h1',iP h2',h3'];by_cases c5:a.f0≤last
            ·rw[iP c5];simp[show ¬last<a.f0 by omega]
            · rw[iN c5]
              exact hend (by omega)
        ·rw[iN (by simpa using c4)]
         simp[c4]
      · rw[iN (by simpa using c1)]
        by_cases c2:0≤a.f0
        ·simp[c2,show ¬a.f0≤a.f1 by omega]
        ·simp[c2]
  ·rw[iP (by omega)]
   refine ev_some.2 ?_;cases h:armsB many b.f1
   ·simp
   ·exact absurd (armsB_few h) h6
theorem spec_CodeOk_ev(l:List S79)(hl:l.length≤1048576):Ev (fun k=>spec_CodeOk.f k l) (codeB l):=by
 have hloop:1≤l.length→l.length≤1000→Ev (fun k=>spec_CodeOk.l0 k l.length 0 l) (l.all (blockB l.length)):=by
  intro h1 h2;have key:=ev_loop l.length (fun k i=>spec_CodeOk.l0 k l.length (i:Nat) l) (fun i=>(l.drop i).all (blockB l.length)) ?_ ?_ 0 (by omega)
  ·simpa using key
  ·rw[ev_succ]
   simp[spec_CodeOk.l0,ev_some]
  ·intro i hi ih
   rw[ev_succ];simp only[spec_CodeOk.l0,ev_ite];rw[iP (by omega),iP (by omega),iP (by omega),ev_bind (spec_l18Arms_ev (rd_T79 l i) l.length (by omega) (by omega)),wrap_succ hi (by omega),all_drop l z79 _ i hi];simp only[ev_ite,ev_some];have:l.getD i z79=rd_T79 l i:=by simp[rd_T79]
   rw[this];cases h:blockB l.length (rd_T79 l i)
   ·simp
   ·simpa using ih
 have hj:∀b,(b=false→1≤l.length∧l.length≤1000)→Ev (fun k=>spec_CodeOk.j0 k l.length b l) (!b&&l.all (blockB l.length)):=by
  intro b h6;rw[ev_succ];simp only[spec_CodeOk.j0,ev_ite,ev_some];cases b
  ·have:=hloop (h6 rfl).1 (h6 rfl).2
   simpa using this
  ·simp
 unfold spec_CodeOk.f codeB;simp only[ev_ite];by_cases h1:1≤l.length
 ·rw[iN (by omega)]
  by_cases h2:l.length≤1000
  ·rw[decide_eq_false (show ¬(l.length:Int)>1000 by omega)]
   exact ev_congr (hj _ (fun _=>⟨h1,h2⟩)) (by simp[h1,h2])
  ·rw[decide_eq_true (show(l.length:Int)>1000 by omega)]
   exact ev_congr (hj _ (by simp)) (by simp[h2])
 ·rw[iP (by omega)]
  exact ev_congr (hj _ (by simp)) (by simp[h1])
end Go.Proofs.Ytlecpdpdcocibaa.P
namespace Go.Proofs.Ytlecpdpdcocibaa.P
open Go.RowKit Go.Proofs.YtlecpdpdcocibaaW.PrintWords Go.Proofs.YtlecpdpdcocibaaW.PrintLast Go.Proofs.YtlecpdpdcocibaaW.PrintMore Go.Proofs.YtlecpdpdcocibaaEv
set_option linter.unusedVariables false
set_option linter.unusedSimpArgs false
def stepsI(b:S79):Int:=2+3*b.f1.length+(if b.f0≥0 then 1 else 0)
def sumI:Int→List S79→Int
 |at_,[]=>at_
 |at_,b :: bs=>sumI (at_+stepsI b) bs
def begsI:Int→List S79→List Int
 | _,[]=>[]
 |at_,b :: bs=>at_ :: begsI (at_+stepsI b) bs
def armsI(begs:List Int)(last:Int):List S81→List S105→List S105
 | [],out=>out
 |a :: rest,out=>armsI begs last rest (((out++ [⟨3,a.f0,last⟩])++ [⟨4,a.f1,(out.length:Int)+3⟩])++ [⟨5,rd begs a.f2,0⟩])
def blocksI(begs:List Int):Int→List S79→List S105→List S105
 | _,[],out=>out
 |at_,b :: bs,out=>blocksI begs (at_+stepsI b) bs (armsI begs (at_+stepsI b-1) b.f1 ((if b.f0≥0 then out++ [⟨1,b.f0,0⟩]else out)++ [⟨2,0,0⟩])++ [⟨5,rd begs b.f2,0⟩])
def compB(l:List S79):List S105 × Bool:=if codeB l then(if sumI 0 l>60000 then([],false)else(blocksI (begsI 0 l) 0 l [],true))else([],false)
theorem stepsI_le{b:S79}(h:b.f1.length≤256):2≤stepsI b∧stepsI b≤771:=by
 unfold stepsI;split<;>omega
theorem impl_stepsIn_eq(b:S79)(h:b.f1.length≤256):impl_stepsIn.f b.f0 b.f1 b.f2=some (stepsI b):=by
 unfold impl_stepsIn.f stepsI;simp only[impl_Arm.f,Option.bind_some];rw[wrap_id (x:=3*(b.f1.length:Int)) (by omega) (by omega),wrap_id (x:=2+3*(b.f1.length:Int)) (by omega) (by omega),wrap_id (x:=2+3*(b.f1.length:Int)+1) (by omega) (by omega)];split
 ·rfl
 ·simp
theorem begsI_length:∀(l:List S79) (a:Int),(begsI a l).length=l.length
 | [],_=>rfl
 |b :: bs,a=>by simp[begsI,begsI_length bs]
def atI(l:List S79)(i:Nat):Int:=sumI 0 (l.take i)
theorem sumI_append:∀(l m:List S79) (a:Int),sumI a (l++m)=sumI (sumI a l) m
 | [],_,_=>rfl
 |b :: bs,m,a=>by simp[sumI,sumI_append bs]
theorem atI_succ(l:List S79)(i:Nat)(h:i<l.length):atI l (i+1)=atI l i+stepsI (rd_T79 l i):=by
 have hr:rd_T79 l i=l[i]:=by simp[rd_T79,h]
 unfold atI;rw[List.take_succ_eq_append_getElem h,sumI_append,hr];rfl
theorem begsI_snoc:∀(l:List S79) (a:Int) (b:S79),begsI a (l++ [b])=begsI a l++ [sumI a l]
 | [],_,_=>rfl
 |c :: bs,a,b=>by simp[begsI,sumI,begsI_snoc bs]
theorem begsI_take(l:List S79)(i:Nat)(h:i<l.length):begsI 0 (l.take (i+1))=begsI 0 (l.take i)++ [atI l i]:=by
 rw[List.take_succ_eq_append_getElem h,begsI_snoc];rfl
theorem begsI_at:∀(l:List S79) (a:Int) (i:Nat) (h:i<l.length),rd (begsI a l) (i:Int)=sumI a (l.take i)
 |b :: bs,a,0,_=>by simp[begsI,rd,sumI]
 | b :: bs,a,i+1,h=>by
   have:=begsI_at bs (a+stepsI b) i (by simpa using h);simp only[begsI,List.take_succ_cons,sumI];rw[←this];unfold rd;rw[Int.toNat_natCast,Int.toNat_natCast,List.getD_cons_succ]
theorem atI_le(l:List S79)(hb:∀i,i<l.length→(rd_T79 l (i:Nat)).f1.length≤256):∀i:Nat,i≤l.length→0≤atI l i∧atI l i≤771*i:=by
 intro i
 induction i with
 |zero=>intro _;simp[atI,sumI]
 | succ i ih=>
   intro h;have:=ih (by omega);have:=stepsI_le (hb i (by omega));rw[atI_succ l i (by omega)];omega
theorem armsI_length(begs:List Int)(last:Int):∀(as_:List S81) (out:List S105),(armsI begs last as_ out).length=out.length+3*as_.length
 | [],out=>by simp[armsI]
 | a :: rest,out=>by
   simp only[armsI];rw[armsI_length begs last rest];simp;omega
theorem blocksI_length(begs:List Int):∀(bs:List S79) (a:Int) (out:List S105),((blocksI begs a bs out).length:Int)=out.length+(sumI a bs-a)
 | [],a,out=>by simp[blocksI,sumI]
 | b :: bs,a,out=>by
   simp only[blocksI,sumI];rw[blocksI_length begs bs];simp only[List.length_append,armsI_length,List.length_cons,List.length_nil];unfold stepsI;split
   · simp only[List.length_append,List.length_cons,List.length_nil]
     omega
   ·omega
theorem compB_few(l:List S79):(compB l).1.length≤60000:=by
 unfold compB;split
 ·split
  ·simp
  ·have:=blocksI_length (begsI 0 l) l 0 []
   simp at this ⊢;omega
 ·simp
theorem code_arms{l:List S79}(h:codeB l=true)(i:Nat)(hi:i<l.length):(rd_T79 l i).f1.length≤256∧(∀a∈(rd_T79 l i).f1,0≤a.f2∧a.f2<l.length)∧0≤(rd_T79 l i).f2∧(rd_T79 l i).f2<l.length:=by
 simp only[codeB,Bool.and_eq_true,decide_eq_true_eq,List.all_eq_true]at h;have hr:rd_T79 l i=l[i]:=by simp[rd_T79,hi]
 have hb:=h.2 _ (List.getElem_mem hi);rw[hr];simp only[blockB,Bool.and_eq_true,decide_eq_true_eq]at hb;refine⟨armsB_few hb.2,?_,by omega,by omega⟩;have key:∀(as_:List S81) (last:Int),armsR l.length last as_=true→∀a∈as_,0≤a.f2∧a.f2<l.length:=by
  intro as_
  induction as_ with
  |nil=>intro _ _ a ha;simp at ha
  | cons x xs ih=>
    intro last h1 a ha;simp only[armsR,Bool.and_eq_true,decide_eq_true_eq]at h1;rcases List.mem_cons.1 ha with rfl|ha
    ·have:=h1.1.2;omega
    ·exact ih _ h1.2 a ha
 exact key _ _ hb.2
theorem rd_arm(as_:List S81)(i:Nat)(h:i<as_.length):rd_T81 as_ (i:Int)=as_[i]:=by simp[rd_T81,h]
theorem impl_Compile_l2(l:List S79)(begs:List Int)(hbl:begs.length=l.length)(hl:l.length≤1000)(b:S79)(ha:∀a∈b.f1,0≤a.f2∧a.f2<l.length)(hf2:0≤b.f2∧b.f2<l.length)(hn:b.f1.length≤256)(last i:Int)(r:List S105 × Bool):
   ∀m,m≤b.f1.length→∀out:List S105,out.length≤1000000+3*m→Ev (fun k=>impl_Compile.l1 k begs (armsI begs last (b.f1.drop m) out++ [⟨5,rd begs b.f2,0⟩]) l l.length (wrap64 (i+1))) r→Ev (fun k=>impl_Compile.l2 k begs out last l l.length i b.f1 b.f1.length (m:Nat) b.f0 b.f1 b.f2) r:=by
 refine down b.f1.length _ ?_ ?_
 ·intro out ho h
  rw[ev_succ];simp only[impl_Compile.l2,ev_ite];rw[iN (by omega),iP hf2.1,iP (by omega),iP (by omega)];rw[List.drop_length]at h;exact h
 ·intro m hm ih out ho h
  have hb:=ha _ (List.getElem_mem hm);rw[drop_cons b.f1 z81 m hm]at h;have hr:b.f1.getD m z81=b.f1[m]:=by simp[hm]
  rw[hr]at h;simp only[armsI]at h;rw[ev_succ];simp only[impl_Compile.l2,Option.bind_some,ev_ite,impl_MOp.f,rd_arm b.f1 m hm];rw[iP (by omega),iP (by omega),iP (by omega),iP (by omega),iP (by simp;omega),iP hb.1,iP (by omega),iP (by simp;omega),wrap_succ hm (by omega)];rw[show wrap64 (((out++ [(⟨3,b.f1[m].f0,last⟩:S105)]).length:Int)+2)=(out.length:Int)+3 by rw[wrap_id (by simp;omega) (by simp;omega)];simp;omega];exact ih _ (by simp;omega) h
theorem impl_Compile_l1(l:List S79)(hc:codeB l=true):∀i,i≤l.length→∀out:List S105,out.length≤771*i→Ev (fun k=>impl_Compile.l1 k (begsI 0 l) out l l.length (i:Nat)) (blocksI (begsI 0 l) (atI l i) (l.drop i) out,true):=by
 have hsz:=hc;simp only[codeB,Bool.and_eq_true,decide_eq_true_eq]at hsz;have hl1:=hsz.1.2;refine down l.length _ ?_ ?_
 ·intro out _
  rw[ev_succ];simp only[impl_Compile.l1,ev_ite,ev_some];rw[iN (by omega),List.drop_length];rfl
 ·intro i hi ih out ho
  have hca:=code_arms hc i hi;have hat:=atI_le l (fun j hj=>(code_arms hc j hj).1) i (by omega);have hst:=stepsI_le hca.1;rw[ev_succ,drop_cons l z79 i hi];have hr:l.getD i z79=rd_T79 l i:=by simp[rd_T79]
  rw[hr];have hbg:rd (begsI 0 l) (i:Int)=atI l i:=begsI_at l 0 i hi;have tail:∀o2:List S105,o2.length≤771*i+1→o2.length+2+3*(rd_T79 l i).f1.length≤771*(i+1)→Ev (fun k=>impl_Compile.j2 k (begsI 0 l) o2 i l l.length i (rd_T79 l i).f0 (rd_T79 l i).f1 (rd_T79 l i).f2) (blocksI (begsI 0 l) (atI l i+stepsI (rd_T79 l i)) (l.drop (i+1)) (armsI (begsI 0 l) (atI l i+stepsI (rd_T79 l i)-1) (rd_T79 l i).f1 (o2++ [⟨2,0,0⟩])++ [⟨5,rd (begsI 0 l) (rd_T79 l i).f2,0⟩]),true):=by
   intro o2 h1 h2;rw[ev_succ];simp only[impl_Compile.j2,ev_ite,impl_stepsIn_eq _ hca.1,Option.bind_some,begsI_length];rw[iP (by omega),iP (by omega),iP (by omega),hbg,wrap_id (x:=atI l i+stepsI (rd_T79 l i)) (by omega) (by omega),wrap_id (x:=atI l i+stepsI (rd_T79 l i)-1) (by omega) (by omega)];refine impl_Compile_l2 l (begsI 0 l) (begsI_length l 0) hl1 (rd_T79 l i) hca.2.1 hca.2.2 hca.1 _ _ _ 0 (by omega) _ (by simp;omega) ?_;rw[wrap_succ hi (by omega),List.drop_zero,←atI_succ l i hi];exact ih _ (by simp only[List.length_append,armsI_length,List.length_cons,List.length_nil];omega)
  simp only[impl_Compile.l1,ev_ite];rw[iP (by omega),iP (by omega),iP (by omega)];simp only[blocksI];have hx:stepsI (rd_T79 l i)=2+3*((rd_T79 l i).f1.length:Int)+(if(rd_T79 l i).f0≥0 then 1 else 0):=rfl;have h256:=hca.1;by_cases h0:(rd_T79 l i).f0≥0
  ·rw[iP h0,iP h0,iP (by omega)]
   exact tail _ (by simp;omega) (by simp;omega)
  ·rw[iN h0,iN h0]
   exact tail _ (by omega) (by omega)
theorem impl_Compile_ev(l:List S79):Ev (fun k=>impl_Compile.f k l) (compB l):=by
 unfold impl_Compile.f compB;simp only[impl_CodeOk.f,Option.bind_some,ev_ite];cases hc:codeB l
 ·exact ev_some.2 rfl
 have hsz:=hc;simp only[codeB,Bool.and_eq_true,decide_eq_true_eq]at hsz;have hl1:=hsz.1.2;simp only[if_true];have hle:=atI_le l (fun j hj=>(code_arms hc j hj).1);have key:=down l.length (fun i=>Ev (fun k=>impl_Compile.l0 k (begsI 0 (l.take i)) (atI l i) l l.length (i:Nat) l) (if sumI 0 l>60000 then([],false)else(blocksI (begsI 0 l) 0 l [],true))) ?_ ?_ 0 (by omega)
 ·exact key
 ·rw[ev_succ]
  simp only[impl_Compile.l0,ev_ite,ev_some];rw[iN (by omega),List.take_length];have e:atI l l.length=sumI 0 l:=by unfold atI;rw[List.take_length]
  rw[e];by_cases h6:sumI 0 l>60000
  ·rw[iP h6,iP h6]
  ·rw[iN h6,iN h6]
   exact impl_Compile_l1 l hc 0 (by omega) [] (by simp)
 ·intro i hi ih
  rw[ev_succ];have hca:=code_arms hc i hi;have hst:=stepsI_le hca.1;have hat:=hle i (by omega);simp only[impl_Compile.l0,ev_ite,impl_stepsIn_eq _ hca.1,Option.bind_some,begsI_length,List.length_take];rw[iP (by omega),iP (by omega),iP (by omega),iP (by omega),wrap_id (x:=atI l i+stepsI (rd_T79 l i)) (by omega) (by omega),wrap_succ hi (by omega),←atI_succ l i hi,←begsI_take l i hi];exact ih
theorem spec_Compile_l2(l:List S79)(begs:List Int)(hbl:begs.length=l.length)(b:S79)(ha:∀a∈b.f1,0≤a.f2∧a.f2<l.length)(hf2:0≤b.f2∧b.f2<l.length)(hn:b.f1.length≤256)(at_ last i:Int)(r:List S105 × Bool):
   ∀m,m≤b.f1.length→∀out:List S105,out.length≤1000000+3*m→Ev (fun k=>spec_Compile.l1 k begs at_ (armsI begs last (b.f1.drop m) out++ [⟨5,rd begs b.f2,0⟩]) (wrap64 (i+1)) l) r→Ev (fun k=>spec_Compile.l2 k begs at_ out i last (m:Nat) l b.f0 b.f1 b.f2) r:=by
 refine down b.f1.length _ ?_ ?_
 ·intro out ho h
  rw[ev_succ];simp only[spec_Compile.l2,ev_ite];rw[iN (by omega),iP hf2.1,iP (by omega),iP (by omega)];rw[List.drop_length]at h;exact h
 ·intro m hm ih out ho h
  have hb:=ha _ (List.getElem_mem hm);rw[drop_cons b.f1 z81 m hm]at h;have hr:b.f1.getD m z81=b.f1[m]:=by simp[hm]
  rw[hr]at h;simp only[armsI]at h;rw[ev_succ];simp only[spec_Compile.l2,Option.bind_some,ev_ite,rd_arm b.f1 m hm];rw[iP (by omega),iP (by omega),iP (by omega),iP (by simp;omega),iP hb.1,iP (by omega),iP (by simp;omega),wrap_succ hm (by omega),wrap_id (x:=(out.length:Int)+3) (by omega) (by omega)];exact ih _ (by simp;omega) h
theorem spec_Compile_l1(l:List S79)(hc:codeB l=true):∀i,i≤l.length→∀out:List S105,out.length≤771*i→Ev (fun k=>spec_Compile.l1 k (begsI 0 l) (atI l l.length) out (i:Nat) l) (blocksI (begsI 0 l) (atI l i) (l.drop i) out,true):=by
  have hsz:=hc;simp only[codeB,Bool.and_eq_true,decide_eq_true_eq]at hsz;have hl1:=hsz.1.2;refine down l.length _ ?_ ?_
  ·intro out _
   rw[ev_succ];simp only[spec_Compile.l1,ev_ite,ev_some];rw[iN (by omega),List.drop_length];rfl
  · intro i hi ih out ho
    have hca:=code_arms hc i hi;have hat:=atI_le l (fun j hj=>(code_arms hc j hj).1) i (by omega);have hat1:=atI_le l (fun j hj=>(code_arms hc j hj).1) (i+1) (by omega);have hatl:=atI_le l (fun j hj=>(code_arms hc j hj).1) l.length (by omega);have hst:=stepsI_le hca.1;rw[ev_succ,drop_cons l z79 i hi];have hr:l.getD i z79=rd_T79 l i:=by simp[rd_T79]
    rw[hr];have hsucc:=atI_succ l i hi;have t3:∀o2:List S105,o2.length≤771*i+1→o2.length+2+3*(rd_T79 l i).f1.length≤771*(i+1)→Ev (fun k=>spec_Compile.j3 k (begsI 0 l) (atI l l.length) o2 i (atI l (i+1)-1) l (rd_T79 l i).f0 (rd_T79 l i).f1 (rd_T79 l i).f2) (blocksI (begsI 0 l) (atI l i+stepsI (rd_T79 l i)) (l.drop (i+1)) (armsI (begsI 0 l) (atI l i+stepsI (rd_T79 l i)-1) (rd_T79 l i).f1 (o2++ [⟨2,0,0⟩])++ [⟨5,rd (begsI 0 l) (rd_T79 l i).f2,0⟩]),true):=by
     intro o2 h1 h2;rw[ev_succ];simp only[spec_Compile.j3,ev_ite];rw[iP (by omega),←hsucc];refine spec_Compile_l2 l (begsI 0 l) (begsI_length l 0) (rd_T79 l i) hca.2.1 hca.2.2 hca.1 _ _ _ _ 0 (by omega) _ (by simp;omega) ?_;rw[wrap_succ hi (by omega),List.drop_zero];exact ih _ (by simp only[List.length_append,armsI_length,List.length_cons,List.length_nil];omega)
    have t2:Ev (fun k=>spec_Compile.j2 k (begsI 0 l) (atI l l.length) out i (atI l (i+1)-1) l (rd_T79 l i).f0 (rd_T79 l i).f1 (rd_T79 l i).f2) (blocksI (begsI 0 l) (atI l i) (rd_T79 l i :: l.drop (i+1)) out,true):=by
      rw[ev_succ];simp only[spec_Compile.j2,ev_ite,blocksI];have hx:stepsI (rd_T79 l i)=2+3*((rd_T79 l i).f1.length:Int)+(if(rd_T79 l i).f0≥0 then 1 else 0):=rfl;have h256:=hca.1;by_cases h0:(rd_T79 l i).f0≥0
      · rw[iP h0,iP h0,iP (by omega)]
        exact t3 _ (by simp;omega) (by simp;omega)
      · rw[iN h0,iN h0]
        exact t3 _ (by omega) (by omega)
    simp only[spec_Compile.l1,ev_ite];rw[iP (by omega),iP (by omega),wrap_succ hi (by omega)];by_cases hi1:i+1<l.length
    ·have hbg:rd (begsI 0 l) ((i+1:Nat):Int)=atI l (i+1):=begsI_at l 0 (i+1) hi1
     rw[iP (by rw[begsI_length];omega),iP (by omega),hbg,wrap_id (x:=atI l (i+1)-1) (by omega) (by omega)];exact t2
    ·have e:atI l (i+1)=atI l l.length:=by rw[show i+1=l.length by omega]
     rw[iN (by rw[begsI_length];omega),wrap_id (x:=atI l l.length-1) (by omega) (by omega)];rw[e]at t2;exact t2
theorem spec_Compile_ev(l:List S79)(hl:l.length≤1048576):Ev (fun k=>spec_Compile.f k l) (compB l):=by
 unfold spec_Compile.f compB;simp only[Option.bind_some];rw[ev_bind (spec_CodeOk_ev l hl),ev_ite];cases hc:codeB l
 ·exact ev_some.2 rfl
 have hsz:=hc;simp only[codeB,Bool.and_eq_true,decide_eq_true_eq]at hsz;have hl1:=hsz.1.2;simp only[if_true];have hle:=atI_le l (fun j hj=>(code_arms hc j hj).1);have e:atI l l.length=sumI 0 l:=by unfold atI;rw[List.take_length]
 have key:=down l.length (fun i=>Ev (fun k=>spec_Compile.l0 k [] (begsI 0 (l.take i)) (atI l i) (i:Nat) l) (if sumI 0 l>60000 then([],false)else(blocksI (begsI 0 l) 0 l [],true))) ?_ ?_ 0 (by omega)
 ·exact key
 ·rw[ev_succ]
  simp only[spec_Compile.l0,ev_ite,ev_some];rw[iN (by omega),List.take_length];by_cases h6:sumI 0 l>60000
  ·rw[e,iP h6,iP h6]
  ·rw[iN (by rw[e];exact h6),iN h6]
   exact spec_Compile_l1 l hc 0 (by omega) [] (by simp)
 ·intro i hi ih
  rw[ev_succ];have hca:=code_arms hc i hi;have hst:=stepsI_le hca.1;have hat:=hle i (by omega);have h256:=hca.1;have hx:stepsI (rd_T79 l i)=2+3*((rd_T79 l i).f1.length:Int)+(if(rd_T79 l i).f0≥0 then 1 else 0):=rfl;have hs:=atI_succ l i hi;simp only[spec_Compile.l0,ev_ite,Option.bind_some,begsI_length,List.length_take];rw[iP (by omega),iP (by omega),iP (by omega)];rw[wrap_id (x:=3*((rd_T79 l i).f1.length:Int)) (by omega) (by omega),wrap_id (x:=atI l i+2) (by omega) (by omega),wrap_id (x:=atI l i+2+3*((rd_T79 l i).f1.length:Int)) (by omega) (by omega),wrap_succ hi (by omega)];rw[begsI_take l i hi]at ih;by_cases h0:(rd_T79 l i).f0≥0
  ·rw[iP h0]at hx
   rw[iP h0,wrap_id (x:=atI l i+2+3*((rd_T79 l i).f1.length:Int)+1) (by omega) (by omega),show atI l i+2+3*((rd_T79 l i).f1.length:Int)+1=atI l (i+1) by omega];exact ih
  ·rw[iN h0]at hx
   rw[iN h0,show atI l i+2+3*((rd_T79 l i).f1.length:Int)=atI l (i+1) by omega];exact ih
theorem near_any{b:List Int}{p:Int}(h:Dr b p)(lo hi:Int)(hl: -1000≤lo)(hh:hi≤1000000000):∃v p',Ev (fun k=>spec_l1Rd_near.f k b p lo hi) (v,p')∧Dr b p':=by
 unfold spec_l1Rd_near.f;obtain⟨v,q,e,_,_,hq⟩:=below_ok h 8;rw[e];simp only[Option.bind_some,ev_ite];by_cases h0:v=0
 ·exact⟨_,_,by rw[iP h0];exact ev_some.2 rfl,hq⟩
 by_cases h1:v=1
 ·exact⟨_,_,by rw[iN h0,iP h1];exact ev_some.2 rfl,hq⟩
 by_cases h2:hi<lo
 ·exact⟨_,_,by rw[iN h0,iN h1,iP h2];exact ev_some.2 rfl,hq⟩
 obtain⟨x,q2,e2,hq2⟩:=word_ok 8 0 0 q hq (by omega) (by omega);have e3:Ev (fun k=>spec_l1Rd_word.f k b q) (x,q2):=e2;have hw:IntKind.u64.wrap (hi-lo+1)=hi-lo+1:=by
  rw[IntKind.wrap_u64];omega
 refine⟨wrap64 (lo+wrap64 (Int.tmod (x / 2) (hi-lo+1))),q2,?_,hq2⟩;rw[iN h0,iN h1,iN h2,ev_bind e3,wrap_id (x:=hi-lo) (by omega) (by omega),wrap_id (x:=hi-lo+1) (by omega) (by omega),hw];simp only[ev_ite];rw[iN (by omega)];exact ev_some.2 rfl
theorem off_any{b:List Int}{p:Int}(h:Dr b p)(lo hi:Int)(hl: -1000≤lo)(hh:hi≤1000000000):∃v p',Ev (fun k=>spec_l1Rd_off.f k b p lo hi) (v,p')∧Dr b p':=by
 unfold spec_l1Rd_off.f;obtain⟨o,q,e,hq⟩:=once_ok h 24;rw[e];simp only[Option.bind_some,ev_ite];cases o
 ·obtain⟨v,q2,e2,hq2⟩:=near_any hq lo hi hl hh
  refine⟨v,q2,?_,hq2⟩;rw[iN (by simp),ev_bind e2];exact ev_some.2 rfl
 ·obtain⟨v,q2,e2,h0,h1,hq2⟩:=below_ok hq 4
  have:=h1 (by omega);refine⟨rd [wrap64 (lo-1),wrap64 (hi+1), -9223372036854775808,9223372036854775807] v,q2,?_,hq2⟩;rw[iP rfl,e2];simp only[Option.bind_some,ev_ite];rw[iP h0,iP (by simp;omega)];exact ev_some.2 rfl
def CodeD(b:List Int)(g:Nat→Option (List S79 × Int)):Prop:=∃cs q,Ev g (cs,q)∧Dr b q∧1≤cs.length∧cs.length≤60∧∀x∈cs,x.f1.length≤257
theorem set_all{α:Type}{P:α→Prop}{l:List α}(h:∀x∈l,P x)(i:Nat)(v:α)(hv:P v):∀x∈l.set i v,P x:=by
 intro x hx;rcases List.mem_or_eq_of_mem_set hx with hx|rfl
 ·exact h x hx
 ·exact hv
theorem armsAt_le{cs:List S79}(s:Int)(h:∀x∈cs,x.f1.length≤256):(armsAt cs s).length≤256:=by
 unfold armsAt;rw[List.getD_eq_getElem?_getD];cases hi:cs[s.toNat]? with
 |none=>simp[z79]
 |some x=>exact h x (List.mem_of_getElem? hi)
theorem oddCode_ok{b:List Int}{p:Int}(hp:Dr b p)(cs:List S79)(s o:Int)(h1:1≤cs.length)(h6:cs.length≤60)(ha:∀x∈cs,x.f1.length≤256):CodeD b (fun k=>oddCode k b p cs s o):=by
 have hA:=armsAt_le s ha;have hw:wrap64 ((cs.length:Int)-1)=(cs.length:Int)-1:=wrap_id (by omega) (by omega);have ha2:∀x∈cs,x.f1.length≤257:=fun x hx=>by have:=ha x hx;omega
 have hget:(cs.getD s.toNat z79).f1.length≤257:=by have:(cs.getD s.toNat z79).f1.length≤256:=hA;omega
 have fin:∀ {g:Nat→Option (List S79 × Int)} (v:S79) (q:Int),Ev g (cs.set s.toNat v,q)→Dr b q→v.f1.length≤257→CodeD b g:=fun v q e hq hv=>⟨_,q,e,hq,by rw[List.length_set];exact h1,by rw[List.length_set];exact h6,set_all ha2 _ v hv⟩
 unfold oddCode;by_cases c0:o=0
 ·obtain⟨v,q,e,hq⟩:=off_any hp 0 (wrap64 ((cs.length:Int)-1)) (by omega) (by omega)
  refine fin ⟨(cs.getD s.toNat z79).f0,(cs.getD s.toNat z79).f1,v⟩ q ?_ hq hget;simp only[iP c0];rw[ev_bind e];exact ev_some.2 rfl
 by_cases c1:o=1
 ·obtain⟨v,q,e,hq⟩:=off_any hp (-1) 39 (by omega) (by omega)
  refine fin ⟨v,(cs.getD s.toNat z79).f1,(cs.getD s.toNat z79).f2⟩ q ?_ hq hget;simp only[iN c0,iP c1];rw[ev_bind e];exact ev_some.2 rfl
 by_cases c2:o=2
 ·obtain⟨v1,q1,e1,hq1⟩:=off_any hp 0 255 (by omega) (by omega)
  obtain⟨v2,q2,e2,hq2⟩:=off_any hq1 0 255 (by omega) (by omega);obtain⟨v3,q3,e3,_,_,hq3⟩:=below_ok hq2 cs.length;refine fin ⟨(cs.getD s.toNat z79).f0,armsAt cs s++ [⟨v1,v2,v3⟩],(cs.getD s.toNat z79).f2⟩ q3 ?_ hq3 (by simp;omega);simp only[iN c0,iN c1,iP c2];rw[ev_bind e1,ev_bind e2];simp only[e3,Option.bind_some];refine ev_if (fun _=>?_) (fun h=>by omega);exact ev_some.2 rfl
 by_cases c3:o=3
 ·simp only[iN c0,iN c1,iN c2,iP c3]
  by_cases c4:0<(armsAt cs s).length
  ·obtain⟨v,q,e,hq⟩:=off_any hp 0 (wrap64 ((cs.length:Int)-1)) (by omega) (by omega)
   refine fin ⟨(cs.getD s.toNat z79).f0,(armsAt cs s).set 0 ⟨((armsAt cs s).getD 0 z81).f0,((armsAt cs s).getD 0 z81).f1,v⟩,(cs.getD s.toNat z79).f2⟩ q ?_ hq (by rw[List.length_set];omega);simp only[iP c4];rw[ev_bind e];exact ev_some.2 rfl
  ·simp only[iN c4]
   exact⟨cs,p,ev_some.2 rfl,hp,h1,h6,ha2⟩
 simp only[iN c0,iN c1,iN c2,iN c3];exact⟨cs,p,ev_some.2 rfl,hp,h1,h6,ha2⟩
theorem code_ok{b:List Int}{p:Int}(hp:Dr b p):CodeD b (fun k=>codeF k b p):=by
 obtain⟨d0,d1,d2,q,e,hq,hd,h6⟩:=dfa_ok hp;obtain⟨m,hD⟩:=dfaB_true hd;have hg:=spec_GenCode_ev d0 d1 d2 (by rw[hD.bytes];omega);have hl:(genC d0 d1 d2).length=d1.length:=by
  unfold genC;rw[iP hd,codeG_length]
 have hr:=hD.rows;obtain⟨s,q2,e2,s0,s1,hq2⟩:=below_ok hq (genC d0 d1 d2).length;have s1:=s1 (by omega);obtain⟨o,q3,e3,_,_,hq3⟩:=below_ok hq2 24;obtain⟨cs,q4,e4,h⟩:=oddCode_ok hq3 (genC d0 d1 d2) s o (by omega) (by omega) (genC_arms d0 d1 d2);refine⟨cs,q4,?_,h⟩;unfold codeF;rw[ev_bind e,ev_bind hg];simp only[e2,Option.bind_some];refine ev_if (fun _=>?_) (fun h=>absurd ⟨s0,s1⟩ h);simp only[e3,Option.bind_some];exact e4
theorem strOfNums_size(xs:List Int):(strOfNums xs).size=xs.length:=by
 unfold strOfNums;simp[ByteArray.size]
theorem text_ok{b:List Int}{p:Int}(hp:Dr b p)(most:Int)(hm:0≤most∧most≤1000):∃s q,Ev (fun k=>spec_l1Rd_text.f k b p most) (s,q)∧Dr b q∧(s.size:Int)≤most:=by
 have hl:b.length≤1048576:=hp.2.2.2;have hmn:0≤mn most (wrap64 (2+wrap64 ((b.length:Int) / 3)))∧mn most (wrap64 (2+wrap64 ((b.length:Int) / 3)))≤most:=by
  rw[wrap_id (x:=(b.length:Int) / 3) (by omega) (by omega),wrap_id (by omega) (by omega)];unfold mn;split<;>omega
 obtain⟨v,q,e,v0,v1,hq⟩:=below_ok hp (wrap64 (mn most (wrap64 (2+wrap64 ((b.length:Int) / 3)))+1));rw[wrap_id (x:=mn most (wrap64 (2+wrap64 ((b.length:Int) / 3)))+1) (by omega) (by omega)]at v1;have v1:=v1 (by omega);have key:∀(n:Nat) (xs:List Int) (p:Int),(n:Int)+xs.length≤most→Dr b p→∃s q,Ev (fun k=>spec_l1Rd_text.l0 k xs (n:Int) b p) (s,q)∧Dr b q∧(s.size:Int)≤most:=by
  intro n
  induction n with
  | zero=>
    intro xs p hx hp;refine⟨strOfNums xs,p,?_,hp,by rw[strOfNums_size];omega⟩;rw[ev_succ];simp only[spec_l1Rd_text.l0,ev_ite];rw[iN (by omega)];exact ev_some.2 rfl
  | succ n ih=>
    intro xs p hx hp;obtain⟨a,q,e,a0,a1,hq⟩:=below_ok hp 21;have a1:=a1 (by omega);obtain⟨s,q2,e2,h⟩:=ih (xs++ [bt (⟨#[97,97,97,98,98,98,99,99,97,98,99,10,120,121,122,57,45,122,65,0,255]⟩:ByteArray) a]) q (by rw[List.length_append];simp;omega) hq;refine⟨s,q2,?_,h⟩;rw[ev_succ];simp only[spec_l1Rd_text.l0,ev_ite,e,Option.bind_some];rw[iP (by omega),iP a0,iP a1,iP (by omega),wrap_id (x:=((n+1:Nat):Int)-1) (by omega) (by omega),show((n+1:Nat):Int)-1=(n:Int) by omega];exact e2
 obtain⟨n,rfl⟩:=Int.eq_ofNat_of_zero_le v0;obtain⟨s,q2,e2,h⟩:=key n [] q (by simp;omega) hq;refine⟨s,q2,?_,h⟩;unfold spec_l1Rd_text.f;simp only[e,Option.bind_some];exact e2
end Go.Proofs.Ytlecpdpdcocibaa.P
namespace Go.Proofs.Ytlecpdpdcocibaa.P
open Go.RowKit Go.Proofs.YtlecpdpdcocibaaW.PrintWords Go.Proofs.YtlecpdpdcocibaaW.PrintLast Go.Proofs.YtlecpdpdcocibaaW.PrintMore Go.Proofs.YtlecpdpdcocibaaEv
set_option linter.unusedVariables false
set_option linter.unusedSimpArgs false
theorem Dr.of{l:List Int}(h:∀x∈l,0≤x∧x≤255)(hl:l.length≤1048576):Dr l 0:=⟨h,by omega,by omega,hl⟩
theorem compB_pos{l:List S79}(h:(compB l).2=true):1≤(compB l).1.length:=by
  unfold compB at h ⊢;split at h
  · rename_i hc
    rw[iP hc];split at h
    ·cases h
    · rename_i hs
      rw [iN hs];have h1:=blocksI_length (begsI 0 l) l 0 [];have hc2:=hc;simp only[codeB,Bool.and_eq_true,decide_eq_true_eq]at hc2;have h2:=atI_le l (fun i hi=>(code_arms hc i hi).1) 1 (by omega);have h3:atI l 1=atI l 0+stepsI (rd_T79 l ((0:Nat):Int)):=atI_succ l 0 (by omega);have h4:=stepsI_le (code_arms hc 0 (by omega)).1;have h5:∀(m:List S79) (a:Int),a≤sumI a m:=by
        intro m
        induction m with
        |nil=>intro a;exact Int.le_refl _
        | cons x m ih=>
          intro a;have:=ih (a+stepsI x);have:0≤stepsI x:=by unfold stepsI;split<;>omega
          simp only[sumI];omega
      have h6:atI l 1≤sumI 0 l:=by
        unfold atI
        conv=>rhs;rw[←List.take_append_drop 1 l,sumI_append]
        exact h5 _ _
      have h7:atI l 0=0:=rfl;simp at h1;dsimp only;omega
  ·cases h
end Go.Proofs.Ytlecpdpdcocibaa.P
namespace Go.Proofs.Ytlecpdpdcocibaa.P
open Go.RowKit Go.Proofs.YtlecpdpdcocibaaW.PrintWords Go.Proofs.YtlecpdpdcocibaaW.PrintLast Go.Proofs.YtlecpdpdcocibaaW.PrintMore
attribute [local go_sem] max2_int min2_int max_two min_two max_three min_three max_four min_four
set_option linter.unusedVariables false
set_option linter.unusedSimpArgs false
mutual
def spec_MachineOk.j0:Nat→List (S105)→Int→Bool→Option (Bool)
 |0,_,_,_=>none
 |k+1,x0,x3,x23=>if x23=true then(some false)else(spec_MachineOk.l0 k x0 x3 0)
def spec_MachineOk.l0:Nat→List (S105)→Int→Int→Option (Bool)
 |0,_,_,_=>none
 |k+1,x0,x3,x4=>if x4<x3 then(if 0≤x4 then(if x4<(x0.length:Int)then(if((rd_T105 x0 x4).f0)=1 then((spec_l1In.f ((rd_T105 x0 x4).f1) 0 39).bind fun t104=>(if t104=true then(if(((rd_T105 x0 x4).f2)=0)then(spec_MachineOk.l0 k x0 x3 (wrap64 (x4+1)))else(some false))else(some false)))else(if((rd_T105 x0 x4).f0)=2 then(if((rd_T105 x0 x4).f1)=0 then(if(((rd_T105 x0 x4).f2)=0)then(spec_MachineOk.l0 k x0 x3 (wrap64 (x4+1)))else(some false))else(some false))else(if((rd_T105 x0 x4).f0)=3 then(spec_MachineOk.j2 k x0 x3 x4 false ((rd_T105 x0 x4).f0) (((rd_T105 x0 x4).f0)==3) ((rd_T105 x0 x4).f0) ((rd_T105 x0 x4).f1) ((rd_T105 x0 x4).f2))else(spec_MachineOk.j2 k x0 x3 x4 false ((rd_T105 x0 x4).f0) (((rd_T105 x0 x4).f0)==4) ((rd_T105 x0 x4).f0) ((rd_T105 x0 x4).f1) ((rd_T105 x0 x4).f2)))))else(none))else(none))else(some true)
def spec_MachineOk.j2:Nat→List (S105)→Int→Int→Bool→Int→Bool→Int→Int→Int→Option (Bool)
 |0,_,_,_,_,_,_,_,_,_=>none
 |k+1,x0,x3,x4,x6,x34,x55,x104000,x104001,x104002=>if x55=true then((spec_l1In.f x104001 0 255).bind fun t105=>(if t105=true then((spec_l1In.f x104002 0 (wrap64 (x3-1))).bind fun t106=>(if t106=true then(spec_MachineOk.l0 k x0 x3 (wrap64 (x4+1)))else(some false)))else(some false)))else(if x34=5 then((spec_l1In.f x104001 0 (wrap64 (x3-1))).bind fun t107=>(if t107=true then(if x104002=0 then(spec_MachineOk.l0 k x0 x3 (wrap64 (x4+1)))else(some false))else(some false)))else(if x6=true then(spec_MachineOk.l0 k x0 x3 (wrap64 (x4+1)))else(some false)))
end
end Go.Proofs.Ytlecpdpdcocibaa.P
namespace Go.Proofs.Ytlecpdpdcocibaa.P
open Go.RowKit Go.Proofs.YtlecpdpdcocibaaW.PrintWords Go.Proofs.YtlecpdpdcocibaaW.PrintLast Go.Proofs.YtlecpdpdcocibaaEv
set_option linter.unusedVariables false
set_option linter.unusedSimpArgs false
def stepB(n:Int)(s:S105):Bool:=
 if s.f0=1 then decide (0≤s.f1∧s.f1≤39)&&decide (s.f2=0)
 else if s.f0=2 then decide (s.f1=0)&&decide (s.f2=0)
 else if s.f0=3∨s.f0=4 then decide (0≤s.f1∧s.f1≤255)&&decide (0≤s.f2∧s.f2≤n-1)
 else if s.f0=5 then decide (0≤s.f1∧s.f1≤n-1)&&decide (s.f2=0)
 else false
theorem impl_stepOk_ev(s:S105)(n:Int)(h0:0≤n)(h1:n≤60000):Ev (fun k=>impl_stepOk.f k s.f0 s.f1 s.f2 n) (stepB n s):=by
 have hw:wrap64 (n-1)=n-1:=wrap_id (by omega) (by omega);have hj:∀b,Ev (fun k=>impl_stepOk.j0 k n s.f0 b s.f0 s.f1 s.f2) (if b then decide (0≤s.f1∧s.f1≤255)&&decide (0≤s.f2∧s.f2≤n-1)else if s.f0=5 then decide (0≤s.f1∧s.f1≤n-1)&&decide (s.f2=0)else false):=by
  intro b;rw[ev_succ];simp only[impl_stepOk.j0,impl_within_eq,Option.bind_some,ev_ite,ev_some,hw];cases b<;>simp<;>grind
 unfold impl_stepOk.f stepB;simp only[impl_within_eq,Option.bind_some,ev_ite,ev_some];split
 ·grind
 ·split
  ·grind
  ·split
   ·exact ev_congr (hj _) (by grind)
   ·exact ev_congr (hj _) (by grind)
def machineB(l:List S105):Bool:=
 decide (1≤l.length)&&decide (l.length≤60000)&&decide ((rd_T105 l (l.length-1)).f0=5)&&l.all (stepB l.length)
theorem impl_MachineOk_ev(l:List S105)(hl:l.length≤1048576):Ev (fun k=>impl_MachineOk.f k l) (machineB l):=by
 have hloop:∀i,i≤l.length→l.length≤60000→Ev (fun k=>impl_MachineOk.l0 k l.length l l.length (i:Nat)) ((l.drop i).all (stepB l.length)):=by
  intro i hi h6;refine ev_loop l.length (fun k i=>impl_MachineOk.l0 k l.length l l.length (i:Nat)) (fun i=>(l.drop i).all (stepB l.length)) ?_ ?_ i hi
  ·rw[ev_succ]
   simp[impl_MachineOk.l0,ev_some]
  ·intro i hi ih
   rw[ev_succ];simp only[impl_MachineOk.l0,ev_ite];rw[iP (by omega),iP (by omega),iP (by omega),ev_bind (impl_stepOk_ev (rd_T105 l i) l.length (by omega) (by omega)),wrap_succ hi (by omega),all_drop l z105 _ i hi];simp only[ev_ite,ev_some];have:l.getD i z105=rd_T105 l i:=by simp[rd_T105]
   rw[this];cases h:stepB l.length (rd_T105 l i)
   ·simp
   ·simpa using ih
 have hj:∀b,l.length≤60000→Ev (fun k=>impl_MachineOk.j0 k l l.length b) (!b&&l.all (stepB l.length)):=by
  intro b h6;rw[ev_succ];simp only[impl_MachineOk.j0,ev_ite,ev_some];have:=hloop 0 (by omega) h6;cases b<;>simp at this ⊢;exact this
 have hj':Ev (fun k=>impl_MachineOk.j0 k l l.length true) false:=by
  rw[ev_succ];simp[impl_MachineOk.j0,ev_some]
 unfold impl_MachineOk.f machineB;simp only[impl_MOp.f,impl_within_eq,Option.bind_some,ev_ite];by_cases h1:1≤l.length
 ·rw[wrap_id (by omega) (by omega)]
  by_cases h2:l.length≤60000
  ·rw[iP (by simp;omega),iP (by omega),iP (by omega)]
   refine ev_congr (hj _ h2) ?_;simp[h1,h2]
   grind
  ·rw[iN (by simp;omega)]
   exact ev_congr hj' (by simp[h2])
 ·rw[iN (by simp;omega)]
  exact ev_congr hj' (by simp[h1])
end Go.Proofs.Ytlecpdpdcocibaa.P
namespace Go.Proofs.Ytlecpdpdcocibaa.P
open Go.RowKit Go.Proofs.YtlecpdpdcocibaaW.PrintWords Go.Proofs.YtlecpdpdcocibaaW.PrintLast Go.Proofs.YtlecpdpdcocibaaW.PrintMore
attribute [local go_sem] max2_int min2_int max_two min_two max_three min_three max_four min_four
set_option linter.unusedVariables false
set_option linter.unusedSimpArgs false
mutual
def spec_RunMachine.j0:Nat→List (S105)→ByteArray→Int→Int→Bool→Option (Int × Int × Int)
 |0,_,_,_,_,_=>none
 |k+1,x0,x1,x2,x3,x37=>if x37=true then(some ((-1),(-1),1))else(spec_RunMachine.l0 k x0 x1 x2 x3 (-1) (-1) 0 x2 0 0)
def spec_RunMachine.l0:Nat→List (S105)→ByteArray→Int→Int→Int→Int→Int→Int→Int→Int→Option (Int × Int × Int)
 |0,_,_,_,_,_,_,_,_,_,_=>none
 |k+1,x0,x1,x2,x3,x11,x12,x13,x14,x15,x16=>if x16<x3 then(if 0≤x15 then(if x15<(x0.length:Int)then(if((rd_T105 x0 x15).f0)=1 then(if x14>x2 then(spec_RunMachine.l0 k x0 x1 x2 x3 x14 ((rd_T105 x0 x15).f1) x13 x14 (wrap64 (x15+1)) (wrap64 (x16+1)))else(spec_RunMachine.l0 k x0 x1 x2 x3 x11 x12 x13 x14 (wrap64 (x15+1)) (wrap64 (x16+1))))else(if((rd_T105 x0 x15).f0)=2 then(if x14=(x1.size:Int)then(some (x11,x12,0))else(if 0≤x14 then(if x14<(x1.size:Int)then(spec_RunMachine.l0 k x0 x1 x2 x3 x11 x12 (wrap64 (bt x1 x14)) (wrap64 (x14+1)) (wrap64 (x15+1)) (wrap64 (x16+1)))else(none))else(none)))else(if((rd_T105 x0 x15).f0)=3 then(if x13<((rd_T105 x0 x15).f1)then(spec_RunMachine.l0 k x0 x1 x2 x3 x11 x12 x13 x14 ((rd_T105 x0 x15).f2) (wrap64 (x16+1)))else(spec_RunMachine.l0 k x0 x1 x2 x3 x11 x12 x13 x14 (wrap64 (x15+1)) (wrap64 (x16+1))))else(if((rd_T105 x0 x15).f0)=4 then(if x13>((rd_T105 x0 x15).f1)then(spec_RunMachine.l0 k x0 x1 x2 x3 x11 x12 x13 x14 ((rd_T105 x0 x15).f2) (wrap64 (x16+1)))else(spec_RunMachine.l0 k x0 x1 x2 x3 x11 x12 x13 x14 (wrap64 (x15+1)) (wrap64 (x16+1))))else(if((rd_T105 x0 x15).f0)=5 then(spec_RunMachine.l0 k x0 x1 x2 x3 x11 x12 x13 x14 ((rd_T105 x0 x15).f1) (wrap64 (x16+1)))else(spec_RunMachine.l0 k x0 x1 x2 x3 x11 x12 x13 x14 (wrap64 (x15+1)) (wrap64 (x16+1))))))))else(none))else(none))else(some (x11,x12,2))
end
end Go.Proofs.Ytlecpdpdcocibaa.P
namespace Go.Proofs.Ytlecpdpdcocibaa.P
open Go.RowKit Go.Proofs.YtlecpdpdcocibaaW.PrintWords Go.Proofs.YtlecpdpdcocibaaW.PrintLast Go.Proofs.YtlecpdpdcocibaaEv
set_option linter.unusedVariables false
set_option linter.unusedSimpArgs false
def runR(l:List S105)(text:ByteArray)(at_:Int):Nat→Int→Int→Int→Int→Int→Int × Int × Int
  |0,e,r,_,_,_=>(e,r,2)
  | d+1,e,r,hand,place,next=>
    let s:=rd_T105 l next
    if s.f0=1 then(if place=at_ then runR l text at_ d e r hand place (next+1)else runR l text at_ d place s.f1 hand place (next+1))
    else if s.f0=2 then(if place=text.size then(e,r,0)else runR l text at_ d e r (bt text place) (place+1) (next+1))
    else if s.f0=3 then(if hand<s.f1 then runR l text at_ d e r hand place s.f2 else runR l text at_ d e r hand place (next+1))
    else if s.f0=4 then(if hand>s.f1 then runR l text at_ d e r hand place s.f2 else runR l text at_ d e r hand place (next+1))
    else runR l text at_ d e r hand place s.f1
def runB(l:List S105)(text:ByteArray)(at_ most:Int):Int × Int × Int:=
 if machineB l=true∧(text.size:Int)≤20000∧0≤at_∧at_≤text.size∧0≤most∧most≤1000000 then runR l text at_ most.toNat (-1) (-1) 0 at_ 0 else(-1, -1,1)
theorem machine_steps{l:List S105}(h:machineB l=true):1≤l.length∧l.length≤60000∧(rd_T105 l (l.length-1)).f0=5∧∀n:Int,0≤n→n<l.length→stepB l.length (rd_T105 l n)=true:=by
 simp only[machineB,Bool.and_eq_true,decide_eq_true_eq,List.all_eq_true]at h;obtain⟨⟨⟨h1,h2⟩,h3⟩,h4⟩:=h;refine⟨h1,h2,h3,fun n h0 hn=>h4 _ ?_⟩;unfold rd_T105;rw[List.getD_eq_getElem?_getD,List.getElem?_eq_getElem (by omega)];exact List.getElem_mem _
theorem machine_next{l:List S105}(h:machineB l=true){n:Int}(h0:0≤n)(hn:n<l.length):
   ((rd_T105 l n).f0=1∧n+1<l.length)∨((rd_T105 l n).f0=2∧n+1<l.length)∨
   (((rd_T105 l n).f0=3∨(rd_T105 l n).f0=4)∧n+1<l.length∧0≤(rd_T105 l n).f2∧(rd_T105 l n).f2<l.length)∨
   ((rd_T105 l n).f0=5∧0≤(rd_T105 l n).f1∧(rd_T105 l n).f1<l.length):=by
 obtain⟨h1,h2,h3,h4⟩:=machine_steps h;have h5:=h4 n h0 hn;have h6:(rd_T105 l n).f0≠5→n+1<l.length:=by
  intro hne;rcases Int.lt_or_eq_of_le (show n+1≤l.length by omega)with h|h
  ·exact h
  ·exact absurd (by rw[show n=(l.length:Int)-1 by omega];exact h3) hne
 unfold stepB at h5;generalize rd_T105 l n=s at *
 grind
theorem impl_RunMachine_ev(l:List S105)(hl:l.length≤1048576)(text:ByteArray)(ht:text.size≤1048576)(at_ most:Int):Ev (fun k=>impl_RunMachine.f k l text at_ most) (runB l text at_ most):=by
  have hbad:Ev (fun k=>impl_RunMachine.j0 k l text at_ most true) (-1, -1,1):=by
   rw[ev_succ];simp[impl_RunMachine.j0,ev_some]
  unfold impl_RunMachine.f runB;simp only[impl_length.f,impl_within_eq,Option.bind_some,ev_ite];by_cases c1:(text.size:Int)>20000
  ·rw[iP c1,iN (by omega)]
   exact hbad
  · rw [iN c1]
    by_cases c2:0≤at_∧at_≤text.size
    · rw [iP (by simpa using c2)]
      by_cases c3:0≤most∧most≤1000000
      · rw [iP (by simpa using c3),ev_bind (impl_MachineOk_ev l hl)]
        cases c4:machineB l
        ·simpa using hbad
        · rw [iP ⟨rfl,by omega,c2.1,c2.2,c3.1,c3.2⟩]
          obtain⟨h1,h2,_,_⟩:=machine_steps c4;rw[ev_succ];simp only[impl_RunMachine.j0,Bool.not_true,Bool.false_eq_true,if_false];have key:=down most.toNat (fun i=>∀e r hand place next:Int,at_≤place→place≤text.size→0≤next→next<l.length→Ev (fun k=>impl_RunMachine.l0 k l text at_ e r hand place next most (i:Nat)) (runR l text at_ (most.toNat-i) e r hand place next)) ?_ ?_ 0 (by omega) (-1) (-1) 0 at_ 0 (by omega) c2.2 (by omega) (by omega)
          ·exact key
          · intro e r hand place next _ _ _ _
            rw[ev_succ,Nat.sub_self];simp only[impl_RunMachine.l0,ev_ite,runR];rw[iN (by omega)];exact ev_some.2 rfl
          · intro i hi ih e r hand place next hp0 hp1 hn0 hn1
            rw[ev_succ,show most.toNat-i=(most.toNat-(i+1))+1 by omega];simp only[impl_RunMachine.l0,impl_length.f,Option.bind_some,ev_ite,runR,ev_some];rw[iP (by omega),iP hn0,iP hn1,wrap_succ hi (by omega),wrap_id (x:=next+1) (by omega) (by omega)];have hb:=bt_range text place;rw[wrap_id (x:=bt text place) (by omega) (by omega)];have hx:=machine_next c4 hn0 hn1;generalize rd_T105 l next=s at *
            rcases hx with⟨h,hx⟩| ⟨h,hx⟩| ⟨h,hx,hx1,hx2⟩| ⟨h,hx1,hx2⟩
            · simp only[h,Int.reduceEq,if_true,if_false]
              split
              ·exact ih _ _ _ _ _ hp0 hp1 (by omega) hx
              ·exact ih _ _ _ _ _ hp0 hp1 (by omega) hx
            · simp only[h,Int.reduceEq,if_true,if_false]
              split
              ·rfl
              · rw[iP (by omega),iP (by omega),wrap_id (x:=place+1) (by omega) (by omega)]
                exact ih _ _ _ _ _ (by omega) (by omega) (by omega) hx
            · rcases h with h|h
              · simp only[h,Int.reduceEq,if_true,if_false]
                split
                ·exact ih _ _ _ _ _ hp0 hp1 hx1 hx2
                ·exact ih _ _ _ _ _ hp0 hp1 (by omega) hx
              · simp only[h,Int.reduceEq,if_true,if_false]
                split
                ·exact ih _ _ _ _ _ hp0 hp1 hx1 hx2
                ·exact ih _ _ _ _ _ hp0 hp1 (by omega) hx
            · simp only[h,Int.reduceEq,if_true,if_false]
              exact ih _ _ _ _ _ hp0 hp1 hx1 hx2
      · rw[iN (by simpa using c3),iN (fun h=>c3 ⟨h.2.2.2.2.1,h.2.2.2.2.2⟩)]
        exact hbad
    ·rw[iN (by simpa using c2),iN (fun h=>c2 ⟨h.2.2.1,h.2.2.2.1⟩)]
     exact hbad
end Go.Proofs.Ytlecpdpdcocibaa.P
namespace Go.Proofs.Ytlecpdpdcocibaa.P
open Go.RowKit Go.Proofs.YtlecpdpdcocibaaW.PrintWords Go.Proofs.YtlecpdpdcocibaaW.PrintLast Go.Proofs.YtlecpdpdcocibaaW.PrintMore
attribute [local go_sem] max2_int min2_int max_two min_two max_three min_three max_four min_four
set_option linter.unusedVariables false
set_option linter.unusedSimpArgs false
def impl_CBlock_to.l0:Nat→Int→List (S81)→Int→Int→Int→List (S81)→Int→Option (Int)
 |0,_,_,_,_,_,_,_=>none
 |k+1,x1,x8,x9,x10,x102000,x102001,x102002=>if x10<x9 then(if 0≤x10 then(if x10<(x8.length:Int)then((impl_within.f (wrap64 (x1)) ((rd_T81 x8 x10).f0) ((rd_T81 x8 x10).f1)).bind fun t104=>(if t104=true then(some ((rd_T81 x8 x10).f2))else(impl_CBlock_to.l0 k x1 x8 x9 (wrap64 (x10+1)) x102000 x102001 x102002)))else(none))else(none))else(some x102002)
def impl_CBlock_to.f(k:Nat)(a0_0:Int)(l0_1:List (S81))(a0_2:Int)(a1:Int):Option (Int):=impl_CBlock_to.l0 k a1 l0_1 (l0_1.length:Int) 0 a0_0 l0_1 a0_2
mutual
def impl_RunCode.j0:Nat→ByteArray→Int→Bool→List (S79)→Option (Int × Int)
 |0,_,_,_,_=>none
 |k+1,x1,x2,x27,x102000=>if x27=true then(some ((-1),(-1)))else(impl_RunCode.l0 k x1 (-1) (-1) 0 x2 x102000)
def impl_RunCode.l0:Nat→ByteArray→Int→Int→Int→Int→List (S79)→Option (Int × Int)
 |0,_,_,_,_,_,_=>none
 |k+1,x1,x8,x9,x10,x11,x102000=>(impl_length.f x1).bind fun t105=>(if x11<t105 then(if 0≤x10 then(if x10<(x102000.length:Int)then(if 0≤x11 then(if x11<(x1.size:Int)then((impl_CBlock_to.f k ((rd_T79 x102000 x10).f0) ((rd_T79 x102000 x10).f1) ((rd_T79 x102000 x10).f2) (bt x1 x11)).bind fun t107=>(if 0≤t107 then(if t107<(x102000.length:Int)then(if((rd_T79 x102000 t107).f0)≥0 then(impl_RunCode.l0 k x1 (wrap64 (x11+1)) ((rd_T79 x102000 t107).f0) t107 (wrap64 (x11+1)) x102000)else(impl_RunCode.l0 k x1 x8 x9 t107 (wrap64 (x11+1)) x102000))else(none))else(none)))else(none))else(none))else(none))else(none))else(some (x8,x9)))
end
end Go.Proofs.Ytlecpdpdcocibaa.P
namespace Go.Proofs.Ytlecpdpdcocibaa.P
open Go.RowKit Go.Proofs.YtlecpdpdcocibaaW.PrintWords Go.Proofs.YtlecpdpdcocibaaW.PrintLast Go.Proofs.YtlecpdpdcocibaaEv
set_option linter.unusedVariables false
set_option linter.unusedSimpArgs false
def toR(x e:Int):List S81→Int
 | []=>e
 |a :: rest=>if a.f0≤x∧x≤a.f1 then a.f2 else toR x e rest
theorem armsR_to{many:Int}{x e:Int}(he:0≤e∧e≤many-1):∀(l:List S81) (last:Int),armsR many last l=true→0≤toR x e l∧toR x e l≤many-1:=by
 intro l
 induction l with
 |nil=>intro last _;exact he
 | cons a l ih=>
   intro last h;simp only[armsR,Bool.and_eq_true,decide_eq_true_eq]at h;unfold toR;split
   ·exact h.1.2
   ·exact ih _ h.2
theorem code_block{l:List S79}(h:codeB l=true){n:Int}(h0:0≤n)(hn:n<l.length):blockB l.length (rd_T79 l n)=true:=by
 simp only[codeB,Bool.and_eq_true,List.all_eq_true]at h;refine h.2 _ ?_;unfold rd_T79;rw[List.getD_eq_getElem?_getD,List.getElem?_eq_getElem (by omega)];exact List.getElem_mem _
theorem block_to{many:Int}{b:S79}(h:blockB many b=true)(x:Int):0≤toR x b.f2 b.f1∧toR x b.f2 b.f1<many:=by
 simp only[blockB,Bool.and_eq_true,decide_eq_true_eq]at h;have:=armsR_to (x:=x) h.1.2 b.f1 (-1) h.2;omega
theorem spec_l18Next_ev(f0:Int)(l:List S81)(f2 x:Int)(hl:l.length≤9223372036854775807):Ev (fun k=>spec_l18Next.f k f0 l f2 x) (toR x f2 l):=by
 unfold spec_l18Next.f;have key:=ev_loop l.length (fun k i=>spec_l18Next.l0 k x (i:Nat) f0 l f2) (fun i=>toR x f2 (l.drop i)) ?_ ?_ 0 (by omega)
 ·exact key
 ·rw[ev_succ]
  simp[spec_l18Next.l0,ev_some,toR]
 ·intro i hi ih
  rw[ev_succ,drop_cons l z81 i hi];have hr:l.getD i z81=rd_T81 l i:=by simp[rd_T81]
  rw[hr];simp only[spec_l18Next.l0,spec_l1In_eq,Option.bind_some,ev_ite,ev_some,toR];rw[iP (by omega),iP (by omega),wrap_succ hi (by omega)];simp only[decide_eq_true_eq];split
  ·rfl
  ·exact ih
def codeR(l:List S79)(text:ByteArray):Nat→Int→Int→Int→Int→Int × Int
  |0,e,r,_,_=>(e,r)
  | d+1,e,r,b,i=>
    let t:=toR (bt text i) (rd_T79 l b).f2 (rd_T79 l b).f1
    if(rd_T79 l t).f0≥0 then codeR l text d (i+1) (rd_T79 l t).f0 t (i+1)else codeR l text d e r t (i+1)
def runCodeB(l:List S79)(text:ByteArray)(at_:Int):Int × Int:=
 if codeB l=true∧(text.size:Int)≤20000∧0≤at_∧at_≤text.size then codeR l text (text.size-at_).toNat (-1) (-1) 0 at_ else(-1, -1)
theorem armsR_len{many:Int}{b:S79}(h:blockB many b=true):b.f1.length≤9223372036854775807:=by
 simp only[blockB,Bool.and_eq_true,decide_eq_true_eq]at h;have:=armsB_few h.2;omega
theorem spec_RunCode_ev(l:List S79)(hl:l.length≤1048576)(text:ByteArray)(ht:text.size≤1048576)(at_:Int):Ev (fun k=>spec_RunCode.f k l text at_) (runCodeB l text at_):=by
  have hbad:Ev (fun k=>spec_RunCode.j0 k text at_ true l) (-1, -1):=by
   rw[ev_succ];simp[spec_RunCode.j0,ev_some]
  unfold spec_RunCode.f runCodeB;rw[ev_bind (spec_CodeOk_ev l hl)];simp only[spec_l1In_eq,Option.bind_some,ev_ite];cases c4:codeB l
  ·simpa using hbad
  rw[iP rfl];by_cases c1:(text.size:Int)>20000
  ·rw[iP c1,iN (by omega)]
   exact hbad
  · rw [iN c1]
    by_cases c2:0≤at_∧at_≤text.size
    · rw [iP ⟨rfl,by omega,c2.1,c2.2⟩,decide_eq_true c2,ev_succ]
      simp only[spec_RunCode.j0,Bool.not_true,Bool.false_eq_true,if_false];have hlen:1≤l.length:=by simp only[codeB,Bool.and_eq_true,decide_eq_true_eq]at c4;omega
      obtain⟨a,rfl⟩:=Int.eq_ofNat_of_zero_le c2.1;have key:=down text.size (fun i=>∀e r b:Int,0≤b→b<l.length→Ev (fun k=>spec_RunCode.l0 k text b e r (i:Nat) l) (codeR l text (text.size-i) e r b (i:Nat))) ?_ ?_ a (by omega) (-1) (-1) 0 (by omega) (by omega)
      · rw[show((text.size:Int)-(a:Int)).toNat=text.size-a by omega]
        exact key
      · intro e r b _ _
        rw[ev_succ,Nat.sub_self];simp only[spec_RunCode.l0,ev_ite,codeR];rw[iN (by omega)];exact ev_some.2 rfl
      · intro i hi ih e r b hb0 hb1
        have hblk:=code_block c4 hb0 hb1;have hbt:=bt_range text i;have hto:=block_to hblk (bt text i);rw[ev_succ,show text.size-i=(text.size-(i+1))+1 by omega];simp only[spec_RunCode.l0,Option.bind_some,ev_ite,codeR];rw[iP (by omega),iP hb0,iP hb1,iP (by omega),wrap_id (x:=bt text i) (by omega) (by omega),ev_bind (spec_l18Next_ev _ _ _ _ (armsR_len hblk)),ev_ite,iP hto.1,ev_ite,iP hto.2,ev_ite,wrap_succ hi (by omega)];split
        · have:=ih (((i+1:Nat):Int)) (rd_T79 l (toR (bt text i) (rd_T79 l b).f2 (rd_T79 l b).f1)).f0 _ hto.1 hto.2
          simpa using this
        · have:=ih e r _ hto.1 hto.2
          simpa using this
    ·rw[decide_eq_false c2,iN (fun h=>c2 ⟨h.2.2.1,h.2.2.2⟩)]
     exact hbad
end Go.Proofs.Ytlecpdpdcocibaa.P
namespace Go.Proofs.Ytlecpdpdcocibaa.P
open Go.RowKit Go.Proofs.YtlecpdpdcocibaaW.PrintWords Go.Proofs.YtlecpdpdcocibaaW.PrintLast Go.Proofs.YtlecpdpdcocibaaW.PrintMore Go.Proofs.YtlecpdpdcocibaaEv
set_option linter.unusedVariables false
set_option linter.unusedSimpArgs false
def armsC(begs:List Int)(last:Int):Int→List S81→List S105
 | _,[]=>[]
 |p,a :: rest=>⟨3,a.f0,last⟩ :: ⟨4,a.f1,p+3⟩ :: ⟨5,rd begs a.f2,0⟩ :: armsC begs last (p+3) rest
def headC(f0:Int):List S105:=if f0≥0 then[⟨1,f0,0⟩,⟨2,0,0⟩]else[⟨2,0,0⟩]
def headN(f0:Int):Int:=if f0≥0 then 2 else 1
def blockC(begs:List Int)(a:Int)(b:S79):List S105:=
 headC b.f0++(armsC begs (a+stepsI b-1) (a+headN b.f0) b.f1++ [⟨5,rd begs b.f2,0⟩])
def blocksC(begs:List Int):Int→List S79→List S105
 | _,[]=>[]
 |a,b :: bs=>blockC begs a b++blocksC begs (a+stepsI b) bs
theorem armsC_length(begs:List Int)(last:Int):∀(as_:List S81) (p:Int),(armsC begs last p as_).length=3*as_.length
 | [],_=>rfl
 | a :: rest,p=>by
   simp only[armsC,List.length_cons,armsC_length begs last rest];omega
theorem headC_length(f0:Int):((headC f0).length:Int)=headN f0:=by
 unfold headC headN;split<;>rfl
theorem stepsI_head(b:S79):stepsI b=headN b.f0+3*b.f1.length+1:=by
 unfold stepsI headN;split<;>omega
theorem blockC_length(begs:List Int)(a:Int)(b:S79):((blockC begs a b).length:Int)=stepsI b:=by
 have h:=headC_length b.f0;rw[stepsI_head];simp only[blockC,List.length_append,armsC_length,List.length_cons,List.length_nil];omega
theorem armsI_C(begs:List Int)(last:Int):∀(as_:List S81) (out:List S105) (p:Int),(out.length:Int)=p→armsI begs last as_ out=out++armsC begs last p as_
 | [],out,p,_=>by simp[armsI,armsC]
 | a :: rest,out,p,hp=>by
   simp only[armsI,armsC];rw[armsI_C begs last rest _ (p+3) (by simp;omega),hp];simp
theorem blocksI_C(begs:List Int):∀(bs:List S79) (a:Int) (out:List S105),(out.length:Int)=a→blocksI begs a bs out=out++blocksC begs a bs
 | [],a,out,_=>by simp[blocksI,blocksC]
 | b :: bs,a,out,ha=>by
   have hh:=headC_length b.f0;have e:(if b.f0≥0 then out++ [⟨1,b.f0,0⟩]else out)++ [⟨2,0,0⟩]=out++headC b.f0:=by
     unfold headC;split<;>simp
   simp only[blocksI,blocksC];rw[e,armsI_C begs _ b.f1 _ (a+headN b.f0) (by simp only[List.length_append];omega),blocksI_C begs bs]
   ·simp only[blockC,List.append_assoc]
   · have:=stepsI_head b
     simp only[List.length_append,armsC_length,List.length_cons,List.length_nil];omega
def AtC(m:List S105)(p:Int)(c:List S105):Prop:=∀(j:Nat) (x:S105),c[j]? =some x→rd_T105 m (p+j)=x
theorem AtC.head{m:List S105}{p:Int}{x:S105}{c:List S105}(h:AtC m p (x :: c)):rd_T105 m p=x:=by
 have:=h 0 x rfl
 rwa [show p+((0:Nat):Int)=p by omega]at this
theorem AtC.tail{m:List S105}{p q:Int}{x:S105}{c:List S105}(h:AtC m p (x :: c))(hq:q=p+1):AtC m q c:=by
 intro j y e;have:=h (j+1) y (by simpa using e)
 rwa [show p+((j+1:Nat):Int)=q+j by omega]at this
theorem AtC.right{m:List S105}{p q:Int}{c d:List S105}(h:AtC m p (c++d))(hq:q=p+c.length):AtC m q d:=by
 intro j y e;have:=h (c.length+j) y (by rw[List.getElem?_append_right (by omega),Nat.add_sub_cancel_left];exact e)
 rwa [show p+((c.length+j:Nat):Int)=q+j by omega]at this
theorem AtC.mk_(pre c post:List S105){p:Int}(hp:(pre.length:Int)=p):AtC (pre++(c++post)) p c:=by
 intro j x e;have hj:=(List.getElem?_eq_some_iff.1 e).1;unfold rd_T105;rw[show(p+(j:Int)).toNat=pre.length+j by omega,List.getD_eq_getElem?_getD,List.getElem?_append_right (by omega),Nat.add_sub_cancel_left,List.getElem?_append_left hj,e];rfl
theorem blocks_at(begs:List Int):∀(bs:List S79) (a:Int) (pre:List S105),(pre.length:Int)=a→∀(i:Nat) (h:i<bs.length),AtC (pre++blocksC begs a bs) (sumI a (bs.take i)) (blockC begs (sumI a (bs.take i)) bs[i])
 | [],_,_,_,i,h=>by simp at h
 | b :: bs,a,pre,hp,0,_=>by
   simp only[List.take_zero,sumI,blocksC,List.getElem_cons_zero];exact AtC.mk_ pre _ _ hp
 | b :: bs,a,pre,hp,i+1,h=>by
   simp only[List.take_succ_cons,sumI,blocksC,List.getElem_cons_succ];rw[←List.append_assoc];refine blocks_at begs bs (a+stepsI b) _ ?_ i (by simpa using h);have:=blockC_length begs a b;simp only[List.length_append];omega
section
variable {m:List S105} {text:ByteArray} {at_ e r hand pl p A B:Int} {d:Nat}
theorem st1(h:rd_T105 m p=⟨1,A,B⟩):runR m text at_ (d+1) e r hand pl p=if pl=at_ then runR m text at_ d e r hand pl (p+1)else runR m text at_ d pl A hand pl (p+1):=by
 rw[runR,h];simp
theorem st2(h:rd_T105 m p=⟨2,A,B⟩):runR m text at_ (d+1) e r hand pl p=if pl=text.size then(e,r,0)else runR m text at_ d e r (bt text pl) (pl+1) (p+1):=by
 rw[runR,h];simp
theorem st3(h:rd_T105 m p=⟨3,A,B⟩):runR m text at_ (d+1) e r hand pl p=if hand<A then runR m text at_ d e r hand pl B else runR m text at_ d e r hand pl (p+1):=by
 rw[runR,h];simp
theorem st4(h:rd_T105 m p=⟨4,A,B⟩):runR m text at_ (d+1) e r hand pl p=if hand>A then runR m text at_ d e r hand pl B else runR m text at_ d e r hand pl (p+1):=by
 rw[runR,h];simp
theorem st5(h:rd_T105 m p=⟨5,A,B⟩):runR m text at_ (d+1) e r hand pl p=runR m text at_ d e r hand pl A:=by
 rw[runR,h];simp
end
theorem toR_none{many x f2:Int}:∀(as_:List S81) (lst:Int),armsR many lst as_=true→x≤lst→toR x f2 as_=f2
 | [],_,_,_=>rfl
 | a :: rest,lst,h,hx=>by
   simp only[armsR,Bool.and_eq_true,decide_eq_true_eq]at h;unfold toR;rw[iN (by omega)];exact toR_none rest _ h.2 (by omega)
theorem run_arms(m:List S105)(text:ByteArray)(at_:Int)(begs:List Int)(many last x f2:Int):∀(as_:List S81) (p lst:Int),armsR many lst as_=true→lst<x→last=p+3*as_.length→AtC m p (armsC begs last p as_++ [⟨5,rd begs f2,0⟩])→
    ∃c:Nat,c≤3*as_.length+1∧∀(d:Nat) (e r pl:Int),runR m text at_ (d+c) e r x pl p=runR m text at_ d e r x pl (rd begs (toR x f2 as_))
  | [],p,lst,_,_,_,hA=>⟨1,by simp,fun d e r pl=>st5 hA.head⟩
  | a :: rest,p,lst,h,hx,hl,hA=>by
    simp only[armsR,Bool.and_eq_true,decide_eq_true_eq]at h;simp only[List.length_cons]at hl ⊢;have h0:=hA.head;have h1:=(hA.tail rfl).head;have h2:=((hA.tail rfl).tail rfl).head;have h3:=((hA.tail rfl).tail rfl).tail (q:=p+3) (by omega);unfold toR;by_cases c0:x<a.f0
    · have hg:rd_T105 m last=⟨5,rd begs f2,0⟩:=(h3.right (q:=last) (by rw[armsC_length];omega)).head
      refine⟨2,by omega,fun d e r pl=>?_⟩;rw[st3 (d:=d+1) h0,iP c0,st5 hg,iN (by omega),toR_none rest _ h.2 (by omega)]
    · by_cases c1:x>a.f1
      · obtain⟨c,hc,hr⟩:=run_arms m text at_ begs many last x f2 rest (p+3) a.f1 h.2 c1 (by omega) h3
        refine⟨c+2,by omega,fun d e r pl=>?_⟩;rw[show d+(c+2)=(d+c+1)+1 by omega,st3 h0,iN c0,st4 h1,iP c1,hr,iN (by omega)]
      · refine⟨3,by omega,fun d e r pl=>?_⟩
        rw[st3 (d:=d+2) h0,iN c0,st4 (d:=d+1) h1,iN c1,st5 h2,iP (by omega)]
def entE(at_ i f0 e:Int):Int:=if f0≥0∧i≠at_ then i else e
def entR(at_ i f0 r:Int):Int:=if f0≥0∧i≠at_ then f0 else r
theorem run_main(l:List S79)(hc:codeB l=true)(text:ByteArray)(at_:Int)(h0:0≤at_):∀(n b:Nat) (i e r hand:Int) (d:Nat),b<l.length→at_≤i→i+n=text.size→772*n+2≤d→
    runR (blocksC (begsI 0 l) 0 l) text at_ d e r hand i (atI l b)=((codeR l text n (entE at_ i (rd_T79 l b).f0 e) (entR at_ i (rd_T79 l b).f0 r) b i).1,(codeR l text n (entE at_ i (rd_T79 l b).f0 e) (entR at_ i (rd_T79 l b).f0 r) b i).2,0):=by
  intro n
  induction n with
  | zero=>
    intro b i e r hand d hb hi hn hd;obtain⟨d,rfl⟩:∃d',d=d'+2:=⟨d-2,by omega⟩;have hA:=blocks_at (begsI 0 l) l 0 [] rfl b hb;have hr:l[b]=rd_T79 l b:=by simp[rd_T79,hb]
    rw[List.nil_append,hr]at hA;change AtC _ (atI l b) (blockC _ (atI l b) _)at hA;generalize rd_T79 l b=B at *;unfold blockC headC at hA;simp only[codeR];unfold entE entR;by_cases c:B.f0≥0
    ·rw[iP c]at hA
     rw[st1 (d:=d+1) hA.head];by_cases ci:i=at_
     ·rw[iP ci,st2 (hA.tail rfl).head,iP (by omega),iN (by omega),iN (by omega)]
     ·rw[iN ci,st2 (hA.tail rfl).head,iP (by omega),iP ⟨c,ci⟩,iP ⟨c,ci⟩]
    ·rw[iN c]at hA
     rw[st2 (d:=d+1) hA.head,iP (by omega),iN (by omega),iN (by omega)]
  | succ n ih=>
    intro b i e r hand d hb hi hn hd;have hA:=blocks_at (begsI 0 l) l 0 [] rfl b hb;have hr:l[b]=rd_T79 l b:=by simp[rd_T79,hb]
    rw[List.nil_append,hr]at hA;change AtC _ (atI l b) (blockC _ (atI l b) _)at hA;have hB:=code_block hc (n:=(b:Int)) (by omega) (by omega);have hto:=block_to hB (bt text i);have hfew:=(code_arms hc b hb).1;simp only[blockB,Bool.and_eq_true,decide_eq_true_eq]at hB;have hs:=stepsI_head (rd_T79 l b);have hbt:=bt_range text i
    -- the arms, the next block
    have hnext:∀(d:Nat) (e r:Int),772*n+2+769≤d→runR (blocksC (begsI 0 l) 0 l) text at_ d e r (bt text i) (i+1) (atI l b+headN (rd_T79 l b).f0)=
        ((codeR l text (n+1) e r b i).1,(codeR l text (n+1) e r b i).2,0):=by
      intro d e r hd;have hx:AtC (blocksC (begsI 0 l) 0 l) (atI l b+headN (rd_T79 l b).f0) (armsC (begsI 0 l) (atI l b+stepsI (rd_T79 l b)-1) (atI l b+headN (rd_T79 l b).f0) (rd_T79 l b).f1++ [⟨5,rd (begsI 0 l) (rd_T79 l b).f2,0⟩]):=hA.right (by rw[headC_length]);obtain⟨c,hcc,hrun⟩:=run_arms _ text at_ (begsI 0 l) l.length _ (bt text i) (rd_T79 l b).f2 _ _ (-1) hB.2 (by omega) (by omega) hx;obtain⟨d',rfl⟩:∃d',d=d'+c:=⟨d-c,by omega⟩;rw[hrun];simp only[codeR];generalize toR (bt text i) (rd_T79 l b).f2 (rd_T79 l b).f1=t at *;obtain⟨t,rfl⟩:∃t':Nat,t=(t':Int):=⟨t.toNat,by omega⟩;have ht:t<l.length:=by omega
      rw[begsI_at l 0 t ht];have:=ih t (i+1) e r (bt text i) d' ht (by omega) (by omega) (by omega);unfold atI at this;rw[this];unfold entE entR;by_cases c0:(rd_T79 l t).f0≥0
      ·rw[iP ⟨c0,by omega⟩,iP ⟨c0,by omega⟩,iP c0]
      ·rw[iN (by omega),iN (by omega),iN c0]
    obtain⟨d,rfl⟩:∃d',d=d'+2:=⟨d-2,by omega⟩;unfold blockC headC at hA;unfold entE entR;have hN:headN (rd_T79 l b).f0=if(rd_T79 l b).f0≥0 then 2 else 1:=rfl
    by_cases c:(rd_T79 l b).f0≥0
    ·rw[iP c]at hA hN
     rw[hN]at hnext;rw[st1 (d:=d+1) hA.head];by_cases ci:i=at_
     ·rw[iP ci,st2 (hA.tail rfl).head,iN (by omega),show atI l b+1+1=atI l b+2 by omega,hnext d _ _ (by omega),iN (by omega),iN (by omega)]
     ·rw[iN ci,st2 (hA.tail rfl).head,iN (by omega),show atI l b+1+1=atI l b+2 by omega,hnext d _ _ (by omega),iP ⟨c,ci⟩,iP ⟨c,ci⟩]
    ·rw[iN c]at hA hN
     rw[hN]at hnext;rw[st2 (d:=d+1) hA.head,iN (by omega),hnext (d+1) _ _ (by omega),iN (by omega),iN (by omega)]
theorem sumI_ge:∀(bs:List S79) (a:Int),a≤sumI a bs
 | [],a=>Int.le_refl _
 | b :: bs,a=>by
   have:=sumI_ge bs (a+stepsI b);have h:0≤stepsI b:=by unfold stepsI;split<;>omega
   simp only[sumI];omega
theorem arms_steps(begs:List Int)(many last N:Int)(hl:0≤last∧last≤N-1)(hb:∀t,0≤t→t≤many-1→0≤rd begs t∧rd begs t≤N-1):∀(as_:List S81) (p lst:Int),armsR many lst as_=true→0≤p→p+3*as_.length≤last→∀s∈armsC begs last p as_,stepB N s=true
 | [],_,_,_,_,_,s,hs=>by simp[armsC]at hs
 | a :: rest,p,lst,h,hp,hq,s,hs=>by
   simp only[armsR,Bool.and_eq_true,decide_eq_true_eq]at h;simp only[List.length_cons]at hq;simp only[armsC,List.mem_cons]at hs;have hr:=hb a.f2 (by omega) (by omega);rcases hs with rfl|rfl|rfl|hs
   ·simp[stepB];omega
   ·simp[stepB];omega
   ·simp[stepB];omega
   ·exact arms_steps begs many last N hl hb rest (p+3) a.f1 h.2 (by omega) (by omega) s hs
theorem blocks_steps(begs:List Int)(many N:Int)(hb:∀t,0≤t→t≤many-1→0≤rd begs t∧rd begs t≤N-1):∀(bs:List S79) (a:Int),(∀b∈bs,blockB many b=true)→0≤a→sumI a bs≤N→∀s∈blocksC begs a bs,stepB N s=true
  | [],_,_,_,_,s,hs=>by simp[blocksC]at hs
  | b :: bs,a,h,ha,hN,s,hs=>by
    simp only[sumI]at hN;have hB:=h b (by simp);simp only[blockB,Bool.and_eq_true,decide_eq_true_eq]at hB;have hg:=sumI_ge bs (a+stepsI b);have hst:=stepsI_head b;have hh:1≤headN b.f0:=by unfold headN;split<;>omega
    simp only[blocksC,blockC,List.mem_append]at hs;rcases hs with(hs|hs|hs)|hs
    · unfold headC at hs
      split at hs
      · simp only[List.mem_cons,List.not_mem_nil,or_false]at hs
        rcases hs with rfl|rfl
        ·simp[stepB];omega
        ·simp[stepB]
      · simp only[List.mem_cons,List.not_mem_nil,or_false]at hs
        subst hs;simp[stepB]
    ·exact arms_steps begs many (a+stepsI b-1) N (by omega) hb b.f1 (a+headN b.f0) (-1) hB.2 (by omega) (by omega) s hs
    · simp only[List.mem_cons,List.not_mem_nil,or_false]at hs
      have:=hb b.f2 (by omega) (by omega);subst hs;simp[stepB];omega
    ·exact blocks_steps begs many N hb bs (a+stepsI b) (fun x hx=>h x (by simp[hx])) (by omega) (by omega) s hs
theorem blocks_last(begs:List Int):∀(bs:List S79) (a:Int),bs≠ []→∃init x,blocksC begs a bs=init++ [⟨5,x,0⟩]
 | [],_,h=>absurd rfl h
 | [b],a,_=>⟨headC b.f0++armsC begs (a+stepsI b-1) (a+headN b.f0) b.f1,rd begs b.f2,by simp[blocksC,blockC]⟩
 | b :: c :: bs,a,_=>by
   obtain⟨init,x,e⟩:=blocks_last begs (c :: bs) (a+stepsI b) (by simp);refine⟨blockC begs a b++init,x,?_⟩;rw[blocksC,e,List.append_assoc]
theorem comp_machine(l:List S79)(h:(compB l).2=true):codeB l=true∧(compB l).1=blocksC (begsI 0 l) 0 l∧machineB (compB l).1=true:=by
  have hlen:=compB_few l;have hpos:=compB_pos h;unfold compB at h hlen hpos ⊢;split at h
  · rename_i hc
    split at h
    ·simp at h
    · rename_i hs
      rw[iP hc,iN hs]at hlen hpos ⊢;have hI:=blocksI_C (begsI 0 l) l 0 [] rfl;rw[List.nil_append]at hI;have hL:=blocksI_length (begsI 0 l) l 0 [];simp only[List.length_nil]at hL;refine⟨hc,hI,?_⟩;simp only at hlen hpos ⊢;rw[hI]at hlen hpos hL ⊢;have hcB:=hc;simp only[codeB,Bool.and_eq_true,decide_eq_true_eq,List.all_eq_true]at hcB;have hne:l≠ []:=by
        intro e;rw[e]at hcB;simp at hcB
      simp only[machineB,Bool.and_eq_true,decide_eq_true_eq,List.all_eq_true];refine⟨⟨⟨hpos,hlen⟩,?_⟩,?_⟩
      · obtain⟨init,x,e⟩:=blocks_last (begsI 0 l) l 0 hne
        rw[e];unfold rd_T105;rw[show(((init++ [(⟨5,x,0⟩:S105)]).length:Int)-1).toNat=init.length by simp,List.getD_eq_getElem?_getD,List.getElem?_append_right (by omega),Nat.sub_self];rfl
      · refine blocks_steps (begsI 0 l) l.length _ ?_ l 0 hcB.2 (by omega) (by omega)
        intro t t0 t1;obtain⟨t,rfl⟩:∃t':Nat,t=(t':Int):=⟨t.toNat,by omega⟩;rw[begsI_at l 0 t (by omega)];have ha:=(atI_le l (fun i hi=>(code_arms hc i hi).1) t (by omega)).1;have hb:=sumI_append (l.take t) (l.drop t) 0;rw[List.take_append_drop]at hb;have hd:l.drop t=l[t] :: l.drop (t+1):=List.drop_eq_getElem_cons (by omega);have hg:=sumI_ge (l.drop (t+1)) (sumI 0 (l.take t)+stepsI l[t]);rw[hd]at hb;simp only[sumI]at hb;have hst:2≤stepsI l[t]:=by unfold stepsI;split<;>omega
        unfold atI at ha;omega
  ·simp at h
theorem comp_run(l:List S79)(h:(compB l).2=true)(text:ByteArray)(at_:Int)(h0:0≤at_)(h1:at_≤text.size)(h2:(text.size:Int)≤200):
   runB (compB l).1 text at_ (772*text.size+3)=((runCodeB l text at_).1,(runCodeB l text at_).2,0):=by
 obtain⟨hc,e,hm⟩:=comp_machine l h;unfold runB runCodeB;rw[iP ⟨hm,by omega,h0,h1,by omega,by omega⟩,iP ⟨hc,by omega,h0,h1⟩,e];have hpos:1≤l.length:=by
  simp only[codeB,Bool.and_eq_true,decide_eq_true_eq]at hc;exact hc.1.1
 have:=run_main l hc text at_ h0 (text.size-at_).toNat 0 at_ (-1) (-1) 0 (772*(text.size:Int)+3).toNat (by omega) (by omega) (by omega) (by omega);have ha:atI l 0=0:=by simp[atI,sumI]
 rw[ha]at this;rw[this];unfold entE entR;rw[iN (by omega),iN (by omega)];rfl
end Go.Proofs.Ytlecpdpdcocibaa.P
namespace Go.Proofs.Ytlecpdpdcocibaa.fnMachineMeans.Pure
open Go.RowKit Go.Proofs.YtlecpdpdcocibaaW.PrintWords Go.Proofs.YtlecpdpdcocibaaW.PrintLast Go.Proofs.Ytlecpdpdcocibaa.P Go.Proofs.YtlecpdpdcocibaaEv
set_option linter.unusedVariables false
set_option linter.unusedSimpArgs false
theorem wf8{n:Int}(h:(Lit.int .u8 n).wf=true):0≤n∧n≤255:=by
 simp[Lit.wf,IntKind.min,IntKind.max,IntKind.signed,IntKind.bits]at h;omega
theorem DrawRunCode_ok{l:List Int}(h:∀x∈l,0≤x∧x≤255)(hl:l.length≤1048576):∃c s at_,Ev (fun k=>spec_DrawRunCode.f k l) (c,s,at_)∧c.length≤60∧s.size≤12:=by
 obtain⟨c,q,e,hq,_,hc,_⟩:=code_ok (Dr.of h hl);obtain⟨s,q2,e2,hq2,hs⟩:=text_ok hq 12 (by omega);obtain⟨o,q3,e3,hq3⟩:=once_ok hq2 2;unfold spec_DrawRunCode.f spec_l1Open.f;have e':Ev (fun k=>spec_l1Rd_code.f k l 0) (c,q):=e;cases o
 ·obtain⟨a,q4,e4,_⟩:=off_any hq3 0 (s.size:Int) (by omega) (by omega)
  refine⟨c,s,a,?_,hc,by omega⟩;simp only[Option.bind_some];rw[ev_bind e',ev_bind e2];simp only[e3,Option.bind_some,Bool.false_eq_true,if_false];rw[ev_bind e4];exact ev_some.2 rfl
 ·refine⟨c,s,0,?_,hc,by omega⟩
  simp only[Option.bind_some];rw[ev_bind e',ev_bind e2];simp only[e3,Option.bind_some,if_true];exact ev_some.2 rfl
theorem pure_FnMachineMeans:∀(l0:List Int),(l0.length≤maxLen∧∀y∈l0,(Lit.int .u8 y).wf=true)→∃k,laws_FnMachineMeans.f k l0=some true:=by
 rintro l ⟨hm,hg⟩;refine ev_get (g:=fun k=>laws_FnMachineMeans.f k l) ?_;unfold laws_FnMachineMeans.f laws_big.f;simp only[Option.bind_some,ev_ite];by_cases hl:l.length≤1048576;rotate_left
 ·rw[iP (by simp;omega)]
  exact ev_some.2 rfl
 rw[iN (by simp;omega)];obtain⟨c,s,at_,e,hcl,hs⟩:=DrawRunCode_ok (fun x hx=>wf8 (hg x hx)) hl;rw[ev_bind e,ev_bind (spec_Compile_ev c (by omega)),ev_bind (impl_Compile_ev c)];simp only[bne_self_eq_false,Bool.false_eq_true,if_false,ev_ite];have hend:∀(a:List S105),Ev (fun k=>laws_FnMachineMeans.j0 k s at_ a true c) true:=by
  intro a;rw[ev_succ];simp only[laws_FnMachineMeans.j0,if_true];exact ev_some.2 rfl
 by_cases hok:(compB c).2=true;rotate_left
 ·rw[iN hok]
  exact hend _
 rw[iP hok,iN (by omega)];by_cases h0:at_<0
 ·rw[iP h0]
  exact hend _
 rw[iN h0];by_cases h1:at_>(s.size:Int)
 ·rw[decide_eq_true h1]
  exact hend _
 rw[decide_eq_false h1,ev_succ];simp only[laws_FnMachineMeans.j0,Bool.false_eq_true,if_false];have hw:wrap64 (wrap64 (772*(s.size:Int))+3)=772*s.size+3:=by
  rw[wrap_id (x:=772*(s.size:Int)) (by omega) (by omega)];exact wrap_id (by omega) (by omega)
 have hf:=compB_few c;obtain⟨hc,_,hmo⟩:=comp_machine c hok;rw[hw,ev_bind (impl_RunMachine_ev _ (by omega) s (by omega) at_ _),ev_bind (spec_RunCode_ev c (by omega) s (by omega) at_),comp_run c hok s at_ (by omega) (by omega) (by omega)];simp only[ev_ite];rw[iP (by trivial),iP (by trivial),iP (by trivial),ev_bind (impl_MachineOk_ev _ (by omega)),hmo];exact ev_some.2 rfl
end Go.Proofs.Ytlecpdpdcocibaa.fnMachineMeans.Pure
namespace Go.Proofs.Ytlecpdpdcocibaa.fnMachineMeans
open Go.ChangeShapes Go.WideShapes Go.ChangeAt Go.RowKit Go.Proofs.YtlecpdpdcocibaaW.PrintWords Go.Proofs.YtlecpdpdcocibaaOpen Go.Proofs.Ytlecpdpdcocibaa.P
open Go.ChangeMaps (open_string shut_string)
set_option linter.unusedVariables false
set_option linter.unusedSimpArgs false
theorem own:ownKnob Try.prog.godebug=none:=by kernel_rfl
theorem laidOut:laidOutB Try.prog=true:=by kernel_rfl
theorem lifted(os:Os)(started:os.Started)(H:Type)(enc:TypeId × Value→H):
   ReturnsInHanded {} Try.checked os 6 .any (Rows.fnMachineMeansSpec.pre6 enc Try.prog Try.f6 Rows.fnMachineMeansRow.domain false) (Rows.fnMachineMeansSpec.post enc Try.prog Try.f6 false true false false):=by
 refine returnsInHanded_of_change_sized (C:=Try.checked) own started (by kernel_rfl) Try.func6
  (ChangeSpec.witness6 (enc:=enc) (C:=Try.checked) false ⟨#[],#[.slice none 0 0],[]⟩ 8 (by kernel_rfl) (by kernel_rfl) (by kernel_rfl) (by kernel_rfl)) ?_
 intro W base args ds gs before hval0 hW hcnd hsz0 _;have hsz:(DataW.weightsEach Try.prog (Try.f6.params.toList++Rows.fnMachineMeansSpec.plain.varTypes Try.prog) (ds++gs)).all (· ≤reachBytes)=true:=hsz0;have hval:∀(j:Nat) t v,Try.f6.params[j]? =some t→args[j]? =some v→Value.okWide Try.prog W .any base t v:=hval0;have hW':=hW;obtain⟨p,q,hA0,hV,rfl,hfz,hnd⟩:=hW;have hA:DataW.TrodAll enc Try.prog W 0 (fun _=>true) true Try.f6.params.toList args.toList ds p:=hA0;rw[Try.params6]at hA hval hsz;obtain⟨v0,vs0,d0,ds0,p0,q0,hargs,rfl,rfl,h0,r0⟩:=trodAll_cons hA;obtain⟨rfl,rfl,rfl⟩:=trodAll_nil r0;obtain rfl:args= #[v0]:=by cases args;simp_all
 obtain⟨rfl,rfl⟩:=trodVars_none hV;have k0':=h0;have lt0:∀x∈p0,x.block<W.heap.size:=by obtain⟨m,hm⟩:=k0';exact DataW.trod_lt m _ _ _ hm
 obtain⟨a0,len0,cap0,rfl⟩:=okWide_slice Try.underlying39 (hval 0 39 v0 rfl rfl);obtain⟨fuel0,hf0⟩:=h0;have hf0':DataW.trod enc Try.prog W 0 (fun _=>true) true fuel0 39 [.slice a0 len0 cap0]=some (d0,p0):=hf0;obtain⟨x0,⟨A0,c0,he0,hl0,hC0⟩,hG0⟩:=(opens_slice Try.underlying39 (by kernel_rfl) (opens_int Try.underlying5 (by kernel_rfl))).op enc W 0 (fun _=>true) true fuel0 _ _ hf0';obtain⟨rfl,rfl,rfl⟩:a0=A0∧len0=x0.length∧cap0=c0:=by simpa using he0
 clear hA0 hval0 hsz0 hsz;obtain⟨k,hk⟩:=Pure.pure_FnMachineMeans x0 hG0;refine(laws_FnMachineMeans.calls k _ _ x0 true W hC0 hl0 hk).mono fun e W' ⟨he,bel0⟩=>?_
 have bel:Below W.heap.size W W':=bel0;subst he;exact⟨_,rfl,_,_,_,[],_,[],hW',trodAll_mk1 (shut_bool Try.underlying4 _),(trodAll_cons_mk (Below.trod laidOut (by kernel_rfl) (ot_ (by kernel_rfl)) k0' bel lt0) trodAll_mk0),rfl,bel.frame _,fun h=>by cases h⟩
theorem over:Rows.fnMachineMeansRow.holds Try.pinned (OpenSpec.ofChange Rows.fnMachineMeansSpec):=
 OpenClaim.holds_of_wide 6 Try.f6 rfl rfl rfl rfl rfl rfl rfl ⟨rfl,rfl,rfl,rfl,rfl⟩ rfl rfl rfl rfl rfl (by kernel_rfl) Try.func6 (by kernel_rfl)
  (ot_ (by kernel_rfl)) (by unfold Func.isWrapper;first| (rw[iP (by decide +kernel)];kernel_rfl)| (rw[iN (by decide +kernel)];exact⟨rfl,rfl⟩))
  (fun os started H enc _=>lifted os started H enc)
theorem proved:Rows.FnMachineMeansSaid:=over
#print axioms proved
end Go.Proofs.Ytlecpdpdcocibaa.fnMachineMeans
namespace Go.Proofs.Ytlecpdpdcocibaa
theorem fnMachineMeans_holds:Rows.FnMachineMeansSaid:=fnMachineMeans.proved
end Go.Proofs.Ytlecpdpdcocibaa
