/- Proved here: the law FnExactPilotHappenCard of the given program answers true at every input, and leaves the input as it was; no condition. This text: lemmas on the way (an evaluator of the program's code, sound once for all; the functions it prints; plain proofs on these). -/
import Derived.Test.YtjjlcnfineddoaaGreatDoorP3
set_option linter.all false
set_option autoImplicit false
set_option maxRecDepth 8000
namespace Go.Ev
def dX {α:Type} (p:α→Bool):List α→Nat→Int
 |[],_=>-1
 |x::r,n=>bif p x then n else dX p r (n+1)
def aP (p:Nat→Bool):Nat→Nat→Bool
 |_,0=>true
 |i,k+1=>p i&&aP p (i+1) k
theorem iq (p:Nat→Bool):∀(k i:Nat),aP p i k=true↔∀j,i≤j→j<i+k→p j=true
 |0,i=>by simp[aP];omega
 |k+1,i=>by
  simp only[aP,Bool.and_eq_true,iq p k (i+1)]
  constructor
  ·rintro ⟨h1,h2⟩ j hj hk
   rcases Nat.lt_or_eq_of_le hj with h|rfl
   ·exact h2 j h (by omega)
   ·exact h1
  ·intro h
   exact ⟨h i (Nat.le_refl _) (by omega),fun j h1 h2=>h j (by omega) (by omega)⟩
theorem fY {body:List C→R} {S:Nat→List C} {p:Nat→Bool} {n b:Nat} {ys r:List C} (hs:∀i,i<n→body (S i)=bif p i then some (.again (S (i+1))) else some (.ret r)) (he:body (S n)=some (.brk b ys)):
  ∀k i,k+i=n→lim body (S i)=bif aP p i k then some (.brk b ys) else some (.ret r)
 |0,i,h=>by
  have:i=n:=by omega
  subst this
  rw[bB he];rfl
 |k+1,i,h=>by
  have h1:=hs i (by omega)
  simp only[aP]
  cases hp:p i with
  |true=>
   rw[hp] at h1
   rw[bc h1,fY hs he k (i+1) (by omega)]
   simp
  |false=>
   rw[hp] at h1
   rw[qM h1]
   simp
theorem im {body:List C→R} {S:Nat→List C} {n b:Nat} {ys:List C} (hs:∀i,i<n→body (S i)=some (.again (S (i+1)))) (he:body (S n)=some (.brk b ys)):
  ∀k i,k+i=n→lim body (S i)=some (.brk b ys)
 |0,i,h=>by
  have:i=n:=by omega
  subst this
  exact bB he
 |k+1,i,h=>by rw[bc (hs i (by omega))];exact im hs he k (i+1) (by omega)
theorem jy {α:Type} {l:List α} {body:List C→R} {S:Nat→List C} {p:α→Bool} {b:Nat} (hs:∀i (h:i<l.length),body (S i)=bif p l[i] then some (.ret [.i (i:Nat)]) else some (.again (S (i+1)))) (he:body (S l.length)=some (.brk b [])):
  ∀k i,k+i=l.length→aq b (lim body (S i)) (fun _=>some (.ret [.i (-1)]))=some (.ret [.i (dX p (l.drop i) i)])
 |0,i,h=>by
  have:i=l.length:=by omega
  subst this
  rw[bB he];simp[dX]
 |k+1,i,h=>by
  have hi:i<l.length:=by omega
  have h1:=hs i hi
  rw[List.drop_eq_getElem_cons hi]
  simp only[dX]
  cases hp:p l[i] with
  |true=>rw[hp] at h1;rw[qM h1];simp
  |false=>rw[hp] at h1;rw[bc h1,jy hs he k (i+1) (by omega)];simp
def bIx (f:Fl) (nm:Str):Int:=dX (fun x:Bt=>sEq x.name nm) f.bts 0
def sIx (f:Fl) (nm:Str):Int:=dX (fun x:Sv=>sEq x.name nm) f.svs 0
def cIx (f:Fl) (nm:Str):Int:=dX (fun x:Cp=>sEq x.name nm) f.cps 0
theorem w8 (f:Fl) (nm:Str) (hl:f.svs.length≤1048576):cS (f.e++[.s nm])=some [.i (sIx f nm)]:=by
 have h:=jy (l:=f.svs) (body:=apn 6 cS.d1) (S:=fun i=>[.s nm,.i (i:Nat),.b f.pack,.l (f.bts.map Bt.e),.l (f.svs.map Sv.e),.l (f.cps.map Cp.e)]) (p:=fun x=>sEq x.name nm) (b:=0)
  (fun i hi=>by
   simp only[apL,jC,jD,cS.d1,C.I_i,C.L_l,C.S_s,jW,jY,getD_map' Sv.e hi,w1 hi (show f.svs.length<big by simp only[big];omega)]
   simp only[Sv.e,jC,C.S_s]
   cases hs:sEq f.svs[i].name nm<;>simp only[sEq] at hs<;>simp[hs,hi])
  (by simp[cS.d1]) f.svs.length 0 rfl
 simp only[cS,cS.d3,Fl.e,jA,jB,apL,jC,jD]
 rw[show (fun xs:List C=>cS.d2)=fun _=>some (.ret [.i (-1)]) from rfl]
 erw[h]
 rfl
theorem mc (f:Fl) (nm:Str) (hl:f.bts.length≤1048576):dA (f.e++[.s nm])=some [.i (bIx f nm)]:=by
 have h:=jy (l:=f.bts) (body:=apn 6 dA.d1) (S:=fun i=>[.s nm,.i (i:Nat),.b f.pack,.l (f.bts.map Bt.e),.l (f.svs.map Sv.e),.l (f.cps.map Cp.e)]) (p:=fun x=>sEq x.name nm) (b:=0)
  (fun i hi=>by
   simp only[apL,jC,jD,dA.d1,C.I_i,C.L_l,C.S_s,jW,jY,getD_map' Bt.e hi,w1 hi (show f.bts.length<big by simp only[big];omega)]
   simp only[Bt.e,jC,C.S_s]
   cases hs:sEq f.bts[i].name nm<;>simp only[sEq] at hs<;>simp[hs,hi])
  (by simp[dA.d1]) f.bts.length 0 rfl
 simp only[dA,dA.d3,Fl.e,jA,jB,apL,jC,jD]
 rw[show (fun xs:List C=>dA.d2)=fun _=>some (.ret [.i (-1)]) from rfl]
 erw[h]
 rfl
theorem vH (f:Fl) (nm:Str) (hl:f.cps.length≤1048576):eR (f.e++[.s nm])=some [.i (cIx f nm)]:=by
 have h:=jy (l:=f.cps) (body:=apn 6 eR.d1) (S:=fun i=>[.s nm,.i (i:Nat),.b f.pack,.l (f.bts.map Bt.e),.l (f.svs.map Sv.e),.l (f.cps.map Cp.e)]) (p:=fun x=>sEq x.name nm) (b:=0)
  (fun i hi=>by
   simp only[apL,jC,jD,eR.d1,C.I_i,C.L_l,C.S_s,jW,jY,getD_map' Cp.e hi,w1 hi (show f.cps.length<big by simp only[big];omega)]
   simp only[Cp.e,jC,C.S_s]
   cases hs:sEq f.cps[i].name nm<;>simp only[sEq] at hs<;>simp[hs,hi])
  (by simp[eR.d1]) f.cps.length 0 rfl
 simp only[eR,eR.d3,Fl.e,jA,jB,apL,jC,jD]
 rw[show (fun xs:List C=>eR.d2)=fun _=>some (.ret [.i (-1)]) from rfl]
 erw[h]
 rfl
theorem jg (f:Fl) (nm:Str) (hl:f.bts.length≤1048576):eQ (f.e++[.s nm])=some [.i (bIx f nm)]:=by
 have h:=jy (l:=f.bts) (body:=apn 4 aF.d1) (S:=fun i=>[.l (f.bts.map Bt.e),.p [.s nm],.i (f.bts.length:Nat),.i (i:Nat)]) (p:=fun x=>sEq x.name nm) (b:=0)
  (fun i hi=>by
   simp only[apL,jC,jD,aF.d1,C.I_i,C.L_l,C.S_s,jW,jY,getD_map' Bt.e hi,w1 hi (show f.bts.length<big by simp only[big];omega)]
   simp only[Bt.e,jC,jD,iK,iK.d1,apL,C.S_s,C.vU,C.P_p,jR,jV,aa,jI,C.B_b]
   cases hs:sEq f.bts[i].name nm<;>simp only[sEq] at hs<;>simp[hs,hi])
  (by simp[aF.d1]) f.bts.length 0 rfl
 simp only[eQ,eQ.d1,aF,aF.d3,Fl.e,jA,jB,apL,jC,jD,C.L_l,jW]
 rw[show (fun xs:List C=>aF.d2)=fun _=>some (.ret [.i (-1)]) from rfl]
 erw[h]
 rfl
theorem pv (f:Fl) (nm:Str) (hl:f.cps.length≤1048576):iL (f.e++[.s nm])=some [.i (cIx f nm)]:=by
 have h:=jy (l:=f.cps) (body:=apn 4 aH.d1) (S:=fun i=>[.l (f.cps.map Cp.e),.p [.s nm],.i (f.cps.length:Nat),.i (i:Nat)]) (p:=fun x=>sEq x.name nm) (b:=0)
  (fun i hi=>by
   simp only[apL,jC,jD,aH.d1,C.I_i,C.L_l,C.S_s,jW,jY,getD_map' Cp.e hi,w1 hi (show f.cps.length<big by simp only[big];omega)]
   simp only[Cp.e,jC,jD,jK,jK.d1,apL,C.S_s,C.vU,C.P_p,jR,jV,aa,jI,C.B_b]
   cases hs:sEq f.cps[i].name nm<;>simp only[sEq] at hs<;>simp[hs,hi])
  (by simp[aH.d1]) f.cps.length 0 rfl
 simp only[iL,iL.d1,aH,aH.d3,Fl.e,jA,jB,apL,jC,jD,C.L_l,jW]
 rw[show (fun xs:List C=>aH.d2)=fun _=>some (.ret [.i (-1)]) from rfl]
 erw[h]
 rfl
def gN (s:Str):Str:=mkS (s.data.toList.takeWhile (· !=61))
def ln (s:Str):Str:=mkS (s.data.toList.dropWhile (· !=61)).tail
def sO (s:Str):Bool:=bf (gN s)&&((s.data.toList.dropWhile (· !=61)).isEmpty||bf (ln s))
theorem ri {s:Str} {l:List UInt8} (hl:s.size≤1048576) (h:l.length≤s.data.toList.length):(mkS l).size≤1048576:=by
 rw[oM];rw[cZ] at hl;omega
theorem vK (s:Str) (hl:s.size≤1048576):dQ [.s s]=some [.s (gN s),.s (ln s),.b (sO s)]:=by
 have key:∀(k i:Nat),s.data.toList.length-i≤k→i≤s.data.toList.length→(s.data.toList.takeWhile (· !=61)).length=i+((s.data.toList.drop i).takeWhile (· !=61)).length→
   aq 0 (lim (apn 2 dQ.d1) [.s s,.i i]) (apn 1 dQ.d2)=some (.ret [.s (gN s),.s (ln s),.b (sO s)]):=by
  intro k
  induction k with
  |zero=>
   intro i hk hi hr
   have e:i=s.data.toList.length:=by omega
   have hd:s.data.toList.drop i=[]:=List.drop_eq_nil_of_le (by omega)
   rw[hd] at hr
   simp only[List.takeWhile_nil,List.length_nil,Nat.add_zero] at hr
   have hdw:s.data.toList.dropWhile (· !=61)=[]:=by rw[←lx,hr];exact List.drop_eq_nil_of_le (by omega)
   have htw:s.data.toList.takeWhile (· !=61)=s.data.toList:=by
    have:=List.takeWhile_append_dropWhile (p:=fun x:UInt8=>x !=61) (l:=s.data.toList)
    rw[hdw,List.append_nil] at this;exact this
   rw[bB (i:=0) (ys:=[.s s]) (by rw[e,←cZ];simp[dQ.d1])]
   have h1:gN s=s:=by unfold gN;rw[htw];rfl
   have h2:ln s=mkS []:=by unfold ln;rw[hdw];rfl
   simp[dQ.d2,cD s hl,aa,sO,h1,h2,hdw,eS]
  |succ k ih=>
   intro i hk hi hr
   rcases Nat.lt_or_ge i s.data.toList.length with hlt|hge
   ·have his:i<s.size:=by rw[cZ];exact hlt
    have hw:=w1 his (show s.size<big by simp only[big];omega)
    have hd:=List.drop_eq_getElem_cons hlt
    rw[hd,List.takeWhile_cons] at hr
    by_cases hc:s.data.toList[i]=61
    ·have hb:(s.data.toList[i] !=61)=false:=by rw[hc];rfl
     rw[hb] at hr
     simp only[Bool.false_eq_true,if_false,List.length_nil,Nat.add_zero] at hr
     have h1:s.extract 0 i=gN s:=by
      rw[mb,List.drop_zero];unfold gN;rw[←hr,pS]
     have h2:s.extract (i+1) s.size=ln s:=by
      rw[mb,cZ,List.take_length];unfold ln
      rw[←lx,hr,List.tail_drop]
     have hn1:(gN s).size≤1048576:=ri hl (qP _ _)
     have hn2:(ln s).size≤1048576:=ri hl (by
      have:=(List.dropWhile_suffix (l:=s.data.toList) (· !=61)).length_le
      rw[List.length_tail];omega)
     have hdw:(s.data.toList.dropWhile (· !=61)).isEmpty=false:=by
      rw[←lx,hr,hd];rfl
     have e1:(i:Int)≤(s.size:Int):=by omega
     have e2:((i+1:Nat):Int)≤(s.size:Int):=by omega
     have hbn:=bn s.data.toList[i] 61 61 rfl
     have hbt:(s.data.toList[i]==61)=true:=by rw[hc];rfl
     have h:apn 2 dQ.d1 [.s s,.i i]=some (.ret [.s (gN s),.s (ln s),.b (sO s)]):=by
      simp only[apL,jC,jD,dQ.d1,C.I_i,C.S_s,jY,ej hlt,hw,hbn,hbt,h1,h2,cD _ hn1,cD _ hn2,aa,jI,C.B_b,e1,e2,decide_true,jR,jX,Int.le_refl,sO,hdw,Bool.false_or]
      cases bf (gN s)<;>simp[his]
     rw[qM h];simp
    ·have hb:(s.data.toList[i] !=61)=true:=by rw[bne_iff_ne];exact hc
     rw[hb] at hr
     simp only[if_true,List.length_cons] at hr
     have hbn:=bn s.data.toList[i] 61 61 rfl
     have hbf:(s.data.toList[i]==61)=false:=by rw[beq_eq_false_iff_ne];exact hc
     have h:apn 2 dQ.d1 [.s s,.i i]=some (.again [.s s,.i (i+1:Nat)]):=by
      simp only[apL,jC,jD,dQ.d1,C.I_i,C.S_s,jY,ej hlt,hw,hbn,hbf]
      simp[his]
     rw[bc h]
     exact ih (i+1) (by omega) (by omega) (by omega)
   ·exact ih i (by omega) hi hr
 have:=key _ 0 (Nat.le_refl _) (Nat.zero_le _) (by simp)
 simp only[dQ,dQ.d3,apL,jC]
 erw[this]
 rfl
theorem tF:∀l:List UInt8,Lib.indexByte l 61=if (l.dropWhile (· !=61)).isEmpty then-1 else ((l.takeWhile (· !=61)).length:Int)
 |[]=>rfl
 |c::r=>by
  simp only[Lib.indexByte,tF r,List.dropWhile_cons,List.takeWhile_cons]
  by_cases hc:c=61
  ·subst hc;simp
  ·have hb:(c !=61)=true:=by simp[hc]
   have hb2:(c==61)=false:=by simp[hc]
   rw[hb,hb2]
   simp only[if_true,Bool.false_eq_true,if_false]
   cases (r.dropWhile (· !=61)).isEmpty with
   |true=>simp
   |false=>
    have:¬((((r.takeWhile (· !=61)).length:Int)==-1)=true):=by rw[beq_iff_eq];omega
    simp only[Bool.false_eq_true,if_false,if_neg this,List.length_cons]
    omega
theorem Cj (s:Str) (hl:s.size≤1048576):ph [.s s]=some [.s (gN s),.s (ln s),.b (sO s)]:=by
 have e1:(bs #[61]).size=1:=rfl
 have e2:(bs #[61]).data.getD 0 0=61:=rfl
 have hix:aQ [.s s,.s (bs #[61])]=some [.i (Lib.indexByte s.data.toList 61)]:=by
  have e3:Nat.toUInt8 (((61:UInt8).toNat:Nat):Int).toNat=61:=rfl
  have e5:((((1:Nat):Int)==0))=false:=rfl
  have e6:((((1:Nat):Int)==1))=true:=rfl
  have e7:(0:Int)<((1:Nat):Int):=by omega
  simp only[aQ,aQ.d2,apL,jC,jD,C.S_s,e1,e5,ja,jR,jJ]
  cases hq:((bs #[61]).toList==s.toList) with
  |true=>
   have:bs #[61]=s:=(gR (bs #[61]) s).1 hq
   subst this
   simp[aQ.d1]
   decide
  |false=>
   simp only[aQ.d1,C.B_b,C.I_i,C.S_s,jS,jR,e1,e6,e7,decide_true,e2,ew,ibF,jC,jD,e3,aa,jI,jV]
 rw[tF] at hix
 have hn1:(gN s).size≤1048576:=ri hl (qP _ _)
 have hn2:(ln s).size≤1048576:=ri hl (by
  have:=(List.dropWhile_suffix (l:=s.data.toList) (· !=61)).length_le
  rw[List.length_tail];omega)
 simp only[ph,ph.d1,jF,jF.d1,cP,cP.d1,apL,jC,jD,hix,aa,jI,C.I_i,C.S_s,e1]
 cases he:(s.data.toList.dropWhile (· !=61)).isEmpty with
 |true=>
  have hdw:s.data.toList.dropWhile (· !=61)=[]:=by simpa using he
  have htw:s.data.toList.takeWhile (· !=61)=s.data.toList:=by
   have:=List.takeWhile_append_dropWhile (p:=fun x:UInt8=>x !=61) (l:=s.data.toList)
   rw[hdw,List.append_nil] at this;exact this
  have h1:gN s=s:=by unfold gN;rw[htw];rfl
  have h2:ln s=mkS []:=by unfold ln;rw[hdw];rfl
  have e8:¬((-1:Int)≥0):=by omega
  simp only[if_true,e8,decide_false,jS,jV,call3,jI,jC,jD,C.B_b,fL s hl,sO,he,Bool.true_or,Bool.and_true,h1,h2,eS]
  cases bf s<;>simp
 |false=>
  have hlt:(s.data.toList.takeWhile (· !=61)).length<s.data.toList.length:=by
   have h:=congrArg List.length (List.takeWhile_append_dropWhile (p:=fun x:UInt8=>x !=61) (l:=s.data.toList))
   rw[List.length_append] at h
   cases hq:s.data.toList.dropWhile (· !=61) with
   |nil=>rw[hq] at he;simp at he
   |cons x r=>rw[hq] at h;simp only[List.length_cons] at h;omega
  have his:(s.data.toList.takeWhile (· !=61)).length<s.size:=by rw[cZ];exact hlt
  have hw:=w1 his (show s.size<big by simp only[big];omega)
  have h1:s.extract 0 (s.data.toList.takeWhile (· !=61)).length=gN s:=by
   rw[mb,List.drop_zero];unfold gN;rw[pS]
  have h2:s.extract ((s.data.toList.takeWhile (· !=61)).length+1) s.size=ln s:=by
   rw[mb,cZ,List.take_length];unfold ln
   rw[←lx,List.tail_drop]
  have e3:(((s.data.toList.takeWhile (· !=61)).length:Int)≥0):=by omega
  have e4:((s.data.toList.takeWhile (· !=61)).length:Int)≤(s.size:Int):=by omega
  have e5:(((s.data.toList.takeWhile (· !=61)).length+1:Nat):Int)≤(s.size:Int):=by omega
  have e6:((1:Nat):Int)=1:=rfl
  simp only[Bool.false_eq_true,if_false,e6,hw,e3,e4,e5,decide_true,jR,jX,Int.le_refl,jY,h1,h2,jV,call3,jI,jC,jD,C.B_b,fL _ hn1,fL _ hn2,sO,he,Bool.false_or,jZ,ja]
  cases bf (gN s)<;>cases bf (ln s)<;>simp
end Go.Ev
namespace Go.Ev
def sLt (a b:Str):Bool:=Op.bytesLess a.toList b.toList
theorem rV:∀(a b:List UInt8),(Op.bytesLess a b||a==b)=!Op.bytesLess b a
 |[],[]=>by simp[Op.bytesLess]
 |[],_::_=>by simp[Op.bytesLess]
 |_::_,[]=>by simp[Op.bytesLess]
 |x::a,y::b=>by
  have ih:=rV a b
  simp only[Op.bytesLess]
  rcases Nat.lt_trichotomy x.toNat y.toNat with h|h|h
  ·have h1:x<y:=h
   have h2:¬y<x:=fun h'=>Nat.lt_asymm h h'
   have h3:¬y=x:=fun e=>by subst e;exact Nat.lt_irrefl _ h
   simp[h1,h2,h3]
  ·have e:x=y:=UInt8.toNat_inj.1 h
   subst e
   have:¬x<x:=Nat.lt_irrefl x.toNat
   simp only[this,decide_false,beq_self_eq_true,Bool.false_or,Bool.true_and]
   simpa using ih
  ·have h1:¬x<y:=fun h'=>Nat.lt_asymm h h'
   have h2:y<x:=h
   have h3:¬x=y:=fun e=>by subst e;exact Nat.lt_irrefl _ h
   simp[h1,h2,h3]
theorem FJ (a b:Str):(sLt a b||sEq a b)=!sLt b a:=rV _ _
theorem ra (z v:C) (k k':Str):∀es:List (List C),lT z k (mX k' v es)=bif sEq k k' then v else lT z k es
 |[]=>by simp[mX,lT,sEq]
 |r::es=>by
  simp only[mX]
  cases h:(k'.toList==(r.getD 0 .nil).S.toList) with
  |true=>
   have e:k'=(r.getD 0 .nil).S:=(gR _ _).1 h
   simp only[jR,lT,jC,jD,C.S_s]
   cases hk:sEq k k' with
   |true=>
    have h1:(k.toList==k'.toList)=true:=hk
    rw[h1];rfl
   |false=>
    have h1:(k.toList==k'.toList)=false:=hk
    have h2:(k.toList==(r.getD 0 .nil).S.toList)=false:=by rw[←e];exact hk
    rw[h1,h2];rfl
  |false=>
   simp only[jS,lT,ra z v k k' es]
   cases h2:sEq k k' with
   |true=>
    have e:=(gR _ _).1 h2
    subst e
    rw[h];rfl
   |false=>simp
theorem xp (a b:Str):sEq a b=sEq b a:=by
 rw[Bool.eq_iff_iff,gR,gR];exact eq_comm
def sAt (ms:List Str) (i:Nat):Str:=ms.getD i (mkS [])
theorem lX {ms:List Str} {i:Nat} (h:i<ms.length):sAt ms i=ms[i]:=by
 unfold sAt;rw[List.getD_eq_getElem?_getD,List.getElem?_eq_getElem h];rfl
def xO (ms:List Str) (nm:Str) (i:Nat):Bool:=aP (fun k=>!sEq (gN (sAt ms k)) nm) 0 i
def nM (ms:List Str) (i:Nat):Bool:=sO (sAt ms i)&&(i==0||sLt (sAt ms (i-1)) (sAt ms i))&&xO ms (gN (sAt ms i)) i
def tQ (ms:List Str):Bool:=decide (ms.length≤10)&&aP (nM ms) 0 ms.length
theorem tp (p:Nat→Bool):∀(k i:Nat),aP p i (k+1)=(aP p i k&&p (i+k))
 |0,i=>by simp[aP]
 |k+1,i=>by
  rw[aP,tp p k (i+1),aP]
  rw[show i+1+k=i+(k+1) by omega,Bool.and_assoc]
section
variable {ms:List Str} (hz:Ao 1048576 ms)
include hz
theorem Hz (i:Nat) (hi:i≤ms.length) (nm:Str):∀k j,k+j=i→lim (apn 4 aZ.d1) [.l (ms.map sE),.i (i:Nat),.s nm,.i (j:Nat)]=bif aP (fun k=>!sEq (gN (sAt ms k)) nm) j k then some (.brk 2 [.l (ms.map sE),.i (i:Nat),.s nm]) else some (.ret [.b false]):=by
 have hl:ms.length<big:=by have:=hz.1;simp only[big];omega
 refine fY (S:=fun j=>[.l (ms.map sE),.i (i:Nat),.s nm,.i (j:Nat)]) (fun j hj=>?_) ?_
 ·have hjl:j<ms.length:=by omega
  have hsz:(sAt ms j).size≤1048576:=by rw[lX hjl];exact hz.2 _ (List.getElem_mem hjl)
  have hjI:(j:Int)<(i:Int):=by omega
  simp only[apL,jC,jD,aZ.d1,C.I_i,C.L_l,jW,jY,getD_map' sE hjl,←lX hjl,w1 hjl hl]
  simp only[sE,jC,vK _ hsz,call3,jI,C.S_s,jD]
  cases hq:sEq (gN (sAt ms j)) nm<;>simp only[sEq] at hq<;>simp[hq,hj,hjl]
 ·simp[aZ.d1]
theorem xh:aZ [.l (ms.map sE)]=some [.b (tQ ms)]:=by
 have hl:ms.length<big:=by have:=hz.1;simp only[big];omega
 have h:=fY (body:=apn 3 aZ.d4) (S:=fun i=>[.l (ms.map sE),.s (bif i==0 then mkS [] else gN (sAt ms (i-1))),.i (i:Nat)]) (p:=nM ms) (n:=ms.length) (b:=0) (ys:=[]) (r:=[.b false])
  (fun i hi=>by
   have hsz:(sAt ms i).size≤1048576:=by rw[lX hi];exact hz.2 _ (List.getElem_mem hi)
   have hd3:∀nm:Str,aZ.d3 (.l (ms.map sE)) (.i (i:Nat)) (.s nm)=bif xO ms nm i then some (.again [.l (ms.map sE),.s nm,.i (i+1:Nat)]) else some (.ret [.b false]):=fun nm=>by
    have:=Hz hz i (by omega) nm i 0 (by omega)
    simp only[Int.natCast_zero] at this
    simp only[aZ.d3,this,xO]
    cases aP (fun k=>!sEq (gN (sAt ms k)) nm) 0 i<;>simp[aZ.d2,w1 hi hl]
   simp only[apL,jC,jD,aZ.d4,C.I_i,C.L_l,jW,jY,getD_map' sE hi,←lX hi]
   simp only[sE,jC,vK _ hsz,call3,jI,C.S_s,jD,C.B_b,Nat.add_sub_cancel]
   rcases Nat.eq_zero_or_pos i with h0|h0
   ·subst h0
    cases hok:sO (sAt ms 0) with
    |false=>simp[hok,nM,hi]
    |true=>
     have:=hd3 (gN (sAt ms 0))
     simp only[Int.natCast_zero] at this
     simp[hok,nM,hi,this,xO,aP]
   ·have hi1:i-1<ms.length:=by omega
    have hw:w64 ((i:Int)-1)=((i-1:Nat):Int):=by rw[ed (by omega) (by simp only[big] at hl;omega)];omega
    have e1:((i:Int)>0):=by omega
    have e2:(((i-1:Nat):Int)<(ms.length:Int)):=by omega
    have e3:((i:Int)<(ms.length:Int)):=by omega
    have e4:(i==0)=false:=by simp;omega
    have e5:(i+1==0)=false:=by simp
    simp only[hw,jY,getD_map' sE hi1,←lX hi1,e1,e2,e3,e4,e5,decide_true,jR,jS,jX,sE,jC,C.S_s,nM,Bool.false_or]
    show (cJ (bif (!(!sO (sAt ms i))) then (bif (!(!sLt (sAt ms (i-1)) (sAt ms i))) then (bif sEq (gN (sAt ms i)) (gN (sAt ms (i-1))) then _ else _) else _) else _) _)=_
    cases hok:sO (sAt ms i) with
    |false=>simp
    |true=>
     cases hlt:sLt (sAt ms (i-1)) (sAt ms i) with
     |false=>simp
     |true=>
      cases hq:sEq (gN (sAt ms i)) (gN (sAt ms (i-1))) with
      |false=>simp[hd3]
      |true=>
       have:xO ms (gN (sAt ms i)) i=false:=by
        cases hdu:xO ms (gN (sAt ms i)) i with
        |false=>rfl
        |true=>
         have:=(iq _ _ _).1 hdu (i-1) (by omega) (by omega)
         simp only[Bool.not_eq_true'] at this
         rw[(gR _ _).1 hq] at this
         have h2:=(gR (gN (sAt ms (i-1))) (gN (sAt ms (i-1)))).2 rfl
         rw[h2] at this;simp at this
       simp[this])
  (by simp[aZ.d4]) ms.length 0 rfl
 simp only[Int.natCast_zero] at h
 have h:lim (apn 3 aZ.d4) [.l (ms.map sE),.s (bs #[]),.i 0]=_:=h
 simp only[aZ,aZ.d6,apL,jC,C.L_l,jW,h,tQ]
 by_cases h10:(ms.length:Int)>10
 ·have:¬ms.length≤10:=by omega
  simp[h10,this]
 ·have:ms.length≤10:=by omega
  simp only[h10,this,decide_true,decide_false,jS,Bool.true_and]
  cases aP (nM ms) 0 ms.length<;>simp[aZ.d5]
def Ce (ms:List Str):Nat→List (List C)
 |0=>[]
 |i+1=>mX (gN (sAt ms i)) (.b true) (Ce ms i)
omit hz in
theorem Bw (nm:Str):∀i,(lT (.b false) nm (Ce ms i)).B=!xO ms nm i
 |0=>rfl
 |i+1=>by
  have hd:xO ms nm (i+1)=(xO ms nm i&&!sEq (gN (sAt ms i)) nm):=by
   unfold xO;rw[tp];simp
  rw[Ce,ra,hd,xp]
  have ih:=Bw nm i
  cases h:sEq (gN (sAt ms i)) nm<;>simp[ih]
omit hz in
theorem ua (a b:Str):((Op.bytesLess b.toList a.toList)||(b.toList==a.toList))=!sLt a b:=by
 have:=FJ b a
 exact this
theorem Ft (name zone:Str) (room hold:Int) (shut:Bool):lim (apn 10 dF.d1) [.l (ms.map sE),.i (ms.length:Nat),.i 0,.s name,.s zone,.l (ms.map sE),.i room,.i hold,.b shut,.l []]=
  bif aP (nM ms) 0 ms.length then some (.brk 0 []) else some (.ret [.b false]):=by
 have h:=fun hl:ms.length<big=>fY (body:=apn 10 dF.d1) (S:=fun i=>[.l (ms.map sE),.i (ms.length:Nat),.i (i:Nat),.s name,.s zone,.l (ms.map sE),.i room,.i hold,.b shut,.l (Ce ms i)]) (p:=nM ms) (n:=ms.length) (b:=0) (ys:=[]) (r:=[.b false])
  (fun i hi=>by
   have hsz:(sAt ms i).size≤1048576:=by rw[lX hi];exact hz.2 _ (List.getElem_mem hi)
   have e3:((i:Int)<(ms.length:Int)):=by omega
   simp only[apL,jC,jD,dF.d1,C.I_i,C.L_l,jW,jY,getD_map' sE hi,←lX hi,w1 hi hl,e3,decide_true,jR,jX]
   simp only[sE,jC,Cj _ hsz,call3,jI,C.S_s,jD,C.B_b,Bw,Bool.not_not,nM]
   cases hok:sO (sAt ms i) with
   |false=>simp
   |true=>
    cases hdu:xO ms (gN (sAt ms i)) i with
    |false=>simp
    |true=>
     rcases Nat.eq_zero_or_pos i with h0|h0
     ·subst h0;simp[Ce]
     ·have hi1:i-1<ms.length:=by omega
      have hw:w64 ((i:Int)-1)=((i-1:Nat):Int):=by rw[ed (by omega) (by simp only[big] at hl;omega)];omega
      have e1:((i:Int)>0):=by omega
      have e2:(((i-1:Nat):Int)<(ms.length:Int)):=by omega
      have e4:(i==0)=false:=by simp;omega
      simp only[hw,jY,getD_map' sE hi1,←lX hi1,e1,e2,e4,decide_true,jR,jX,sE,jC,C.S_s,ua,Bool.false_or,jZ,ja,jS,Bool.true_and,Bool.and_true]
      cases sLt (sAt ms (i-1)) (sAt ms i)<;>simp[Ce])
  (by simp[dF.d1]) ms.length 0 rfl
 have h:=h (by have:=hz.1;simp only[big];omega)
 simpa [Ce] using h
end
def fQ (b:Bt):Bool:=bf b.name&&(bf b.zone&&(tQ b.marks&&(within b.room 0 1000&&within b.hold 0 1000)))
theorem wM (b:Bt) (hz:b.Sz 1048576):iu b.e=some [.b (fQ b)]:=by
 simp only[iu,iu.d1,Bt.e,apL,jC,jD,cD _ hz.1,cD _ hz.2.1,xh hz.2.2,gq,aa,jI,C.B_b,fQ]
 cases bf b.name<;>cases bf b.zone<;>cases tQ b.marks<;>cases within b.room 0 1000<;>simp
theorem yq (b:Bt) (hz:b.Sz 1048576):dF b.e=some [.b (fQ b)]:=by
 have hm:=Ft (ms:=b.marks) hz.2.2 b.name b.zone b.room b.hold b.shut
 simp only[dF,dF.d3,Bt.e,apL,jC,jD,fL _ hz.1,fL _ hz.2.1,nk,aa,jI,C.B_b,C.L_l,jW,aB,hm,fQ,tQ]
 by_cases h10:(b.marks.length:Int)>10
 ·have:¬b.marks.length≤10:=by omega
  simp only[h10,this,decide_true,decide_false]
  cases bf b.name<;>cases bf b.zone<;>simp
 ·have:b.marks.length≤10:=by omega
  simp only[h10,this,decide_true,decide_false]
  cases bf b.name<;>cases bf b.zone<;>cases within b.room 0 1000<;>cases within b.hold 0 1000<;>cases aP (nM b.marks) 0 b.marks.length<;>simp[dF.d2]
end Go.Ev
namespace Go.Ev
def nv (s:Str):Bool:=(pp s).code==0
def js (x:Lk):Bool:=nv x.sel&&within x.w (-9) 9
def An (s:Str):Bool:=sEq s (mkS [])||bf s
def mw (c:Cp):Bool:=
 bf c.name&&(within c.rank 0 100&&(within c.born 0 1000000&&(within c.room 0 1000&&(within c.hold 0 1000&&(decide (c.likes.length≤5)&&(within c.apart 0 2&&(An c.near&&(An c.fixed&&(nv c.sel&&c.likes.all js)))))))))
theorem pK (s:Str) (hl:s.size≤1048576):fG [.s s]=some [.b (nv s)]:=by
 simp only[fG,fG.d1,apL,jC,wa s hl,call2,jI,jD,C.I_i,jV,nv]
 have:(((pp s).code:Int)==0)=((pp s).code==0):=by
  rw[Bool.eq_iff_iff,beq_iff_eq,beq_iff_eq];omega
 rw[this]
def tZ (l:List Lk) (i:Nat):Bool:=match l[i]? with|some x=>js x|none=>true
theorem yP (l:List Lk):aP (tZ l) 0 l.length=l.all js:=by
 rw[Bool.eq_iff_iff,iq,List.all_eq_true]
 constructor
 ·intro h x hx
  obtain ⟨i,hi,rfl⟩:=List.getElem_of_mem hx
  have:=h i (Nat.zero_le _) (by omega)
  simpa [tZ,hi] using this
 ·intro h i _ hi
  have hi:i<l.length:=by omega
  simpa [tZ,hi] using h _ (List.getElem_mem hi)
theorem Fh (c:Cp) (hz:c.Sz 1048576) (K:List C→R):aq 0 (lim (apn 13 ca.d1) ([.i 0]++c.e)) K=bif c.likes.all js then K [] else some (.ret [.b false]):=by
 have hl:c.likes.length<big:=by have:=hz.2.2.2.2.2.2.1;simp only[big];omega
 have h:=fY (body:=apn 13 ca.d1) (S:=fun i=>[.i (i:Nat)]++c.e) (p:=tZ c.likes) (n:=c.likes.length) (b:=0) (ys:=[]) (r:=[.b false])
  (fun i hi=>by
   have hsz:=hz.2.2.2.2.2.2.2 _ (List.getElem_mem hi)
   have e3:((i:Int)<(c.likes.length:Int)):=by omega
   have hp:tZ c.likes i=js c.likes[i]:=by simp[tZ,hi]
   simp only[Cp.e,jA,jB,apL,jC,jD,ca.d1,C.I_i,C.L_l,jW,jY,getD_map' Lk.e hi,w1 hi hl,e3,decide_true,jR,jX,hp,js]
   simp only[Lk.e,jC,jD,pK _ hsz,gq,aa,jI,C.B_b]
   cases nv c.likes[i].sel<;>cases within c.likes[i].w (-9) 9<;>simp)
  (by simp[ca.d1,Cp.e]) c.likes.length 0 rfl
 simp only[Int.natCast_zero] at h
 rw[h,yP]
 cases c.likes.all js<;>simp
theorem yD (c:Cp) (hz:c.Sz 1048576):ca c.e=some [.b (bf c.svc&&mw c)]:=by
 obtain ⟨z1,z2,z3,z4,z5,z6,z7,z8⟩:=hz
 have hlp:=Fh c ⟨z1,z2,z3,z4,z5,z6,z7,z8⟩ (fun xs=>ca.d2)
 simp only[Cp.e,jA,jB] at hlp
 have q1:(c.near.toList==(bs #[]).toList)=sEq c.near (mkS []):=rfl
 have q2:(c.fixed.toList==(bs #[]).toList)=sEq c.fixed (mkS []):=rfl
 simp only[ca,ca.d4,Cp.e,apL,jC,jD,cD _ z1,cD _ z2,cD _ z4,cD _ z5,gq,pK _ z3,aa,jI,C.B_b,C.L_l,C.S_s,jW,mw,An,q1,q2]
 have e5:decide ((c.likes.length:Int)>5)=!decide (c.likes.length≤5):=by
  by_cases h:c.likes.length≤5
  ·have:¬((c.likes.length:Int)>5):=by omega
   simp[h,this]
  ·have:((c.likes.length:Int)>5):=by omega
   simp[h,this]
 rw[e5]
 cases bf c.name with
 |false=>simp
 |true=>
 cases bf c.svc with
 |false=>simp
 |true=>
 cases within c.rank 0 100 with
 |false=>simp
 |true=>
 cases within c.born 0 1000000 with
 |false=>simp
 |true=>
 cases within c.room 0 1000 with
 |false=>simp
 |true=>
 cases within c.hold 0 1000 with
 |false=>simp
 |true=>
 simp only[jZ,ja,jR,jS,Bool.true_and]
 cases nv c.sel with
 |false=>simp[ca.d3]
 |true=>
 cases decide (c.likes.length≤5) with
 |false=>simp[ca.d3]
 |true=>
 cases within c.apart 0 2 with
 |false=>simp[ca.d3]
 |true=>
 simp only[jZ,ja,jR,jS,Bool.true_and]
 cases sEq c.near (mkS [])<;>cases bf c.near<;>cases sEq c.fixed (mkS [])<;>cases bf c.fixed<;>simp[ca.d3,hlp]<;>cases c.likes.all js<;>simp[ca.d2]
theorem FL (l:List Lk) (hz:l.length≤1048576∧∀x,x∈l→x.sel.size≤1048576) (K:List C→R):aq 0 (lim (apn 3 cQ.d1) [.l (l.map Lk.e),.i (l.length:Nat),.i 0]) K=bif l.all js then K [] else some (.ret [.b false]):=by
 have hl:l.length<big:=by have:=hz.1;simp only[big];omega
 have h:=fY (body:=apn 3 cQ.d1) (S:=fun i=>[.l (l.map Lk.e),.i (l.length:Nat),.i (i:Nat)]) (p:=tZ l) (n:=l.length) (b:=0) (ys:=[]) (r:=[.b false])
  (fun i hi=>by
   have hsz:=hz.2 _ (List.getElem_mem hi)
   have e3:((i:Int)<(l.length:Int)):=by omega
   have hp:tZ l i=js l[i]:=by simp[tZ,hi]
   have hc:(((pp l[i].sel).code:Int) !=0)=!nv l[i].sel:=by
    unfold nv bne
    congr 1
    rw[Bool.eq_iff_iff,beq_iff_eq,beq_iff_eq];omega
   simp only[apL,jC,jD,cQ.d1,C.I_i,C.L_l,jW,jY,getD_map' Lk.e hi,w1 hi hl,e3,decide_true,jR,jX,hp,js]
   simp only[Lk.e,jC,jD,vI _ hsz,nk,aa,call2,jI,C.B_b,C.I_i,hc]
   cases nv l[i].sel<;>cases within l[i].w (-9) 9<;>simp)
  (by simp[cQ.d1]) l.length 0 rfl
 simp only[Int.natCast_zero] at h
 rw[h,yP]
 cases l.all js<;>simp
theorem AF (c:Cp) (hz:c.Sz 1048576):cQ c.e=some [.b (mw c)]:=by
 obtain ⟨z1,z2,z3,z4,z5,z6,z7⟩:=hz
 have hlp:=FL c.likes z7 (fun xs=>cQ.d2)
 have q1:(c.near.toList==(bs #[]).toList)=sEq c.near (mkS []):=rfl
 have q2:(c.fixed.toList==(bs #[]).toList)=sEq c.fixed (mkS []):=rfl
 have hc:(((pp c.sel).code:Int) !=0)=!nv c.sel:=by
  unfold nv bne
  congr 1
  rw[Bool.eq_iff_iff,beq_iff_eq,beq_iff_eq];omega
 simp only[cQ,cQ.d4,Cp.e,apL,jC,jD,fL _ z1,fL _ z4,fL _ z5,nk,aa,jI,C.B_b,C.L_l,C.S_s,jW,mw,An,q1,q2]
 have e5:decide ((c.likes.length:Int)>5)=!decide (c.likes.length≤5):=by
  by_cases h:c.likes.length≤5
  ·have:¬((c.likes.length:Int)>5):=by omega
   simp[h,this]
  ·have:((c.likes.length:Int)>5):=by omega
   simp[h,this]
 rw[e5]
 have hd3:∀b:Bool,cQ.d3 (.b b) (.s c.name) (.s c.svc) (.i c.rank) (.i c.born) (.i c.room) (.i c.hold) (.s c.sel) (.l (c.likes.map Lk.e)) (.i c.apart) (.s c.near) (.s c.fixed) (.s c.at_)=bif b then some (.ret [.b false]) else bif nv c.sel&&c.likes.all js then some (.ret [.b true]) else some (.ret [.b false]):=fun b=>by
  simp only[cQ.d3,C.B_b,vI _ z3,call2,jI,jC,jD,C.I_i,hc,C.L_l,jW,hlp]
  cases b<;>cases nv c.sel<;>cases c.likes.all js<;>simp[cQ.d2]
 cases bf c.name with
 |false=>simp[hd3]
 |true=>
 cases within c.rank 0 100 with
 |false=>simp[hd3]
 |true=>
 cases within c.born 0 1000000 with
 |false=>simp[hd3]
 |true=>
 cases within c.room 0 1000 with
 |false=>simp[hd3]
 |true=>
 cases within c.hold 0 1000 with
 |false=>simp[hd3]
 |true=>
 simp only[jZ,ja,jR,jS,Bool.true_and]
 cases decide (c.likes.length≤5) with
 |false=>simp[hd3]
 |true=>
 cases within c.apart 0 2 with
 |false=>simp[hd3]
 |true=>
 simp only[jZ,ja,jR,jS,Bool.true_and]
 cases sEq c.near (mkS [])<;>cases bf c.near<;>cases sEq c.fixed (mkS [])<;>cases bf c.fixed<;>simp[hd3]<;>cases nv c.sel&&c.likes.all js<;>simp
def pM (l:List Cp) (nm:Str):Nat→Int
 |0=>0
 |i+1=>match l[i]? with
  |some c=>bif sEq c.at_ nm then w64 (pM l nm i+c.room) else pM l nm i
  |none=>pM l nm i
def pC (l:List Cp) (nm:Str):Nat→Int
 |0=>0
 |i+1=>match l[i]? with
  |some c=>bif sEq c.at_ nm then w64 (pC l nm i+c.hold) else pC l nm i
  |none=>pC l nm i
def used (f:Fl) (nm:Str):Int×Int:=bif sEq nm (mkS [])||decide (bIx f nm<0) then (0,0) else (pM f.cps nm f.cps.length,pC f.cps nm f.cps.length)
theorem xa (f:Fl) (nm:Str) (hz:f.Sz 1048576):bJ (f.e++[.s nm])=some [.i (used f nm).1,.i (used f nm).2]:=by
 have hl:f.cps.length<big:=by have:=hz.2.2.1;simp only[big];omega
 have hb:=mc f nm hz.1.1
 have q1:(nm.toList==(bs #[]).toList)=sEq nm (mkS []):=rfl
 simp only[Fl.e,jA,jB] at hb
 simp only[bJ,bJ.d4,Fl.e,jA,jB,apL,jC,jD,hb,aa,jI,C.I_i,used]
 cases hlt:decide (bIx f nm<0) with
 |true=>simp
 |false=>
  simp only[jS,Bool.or_false]
  cases he:sEq nm (mkS []) with
  |true=>
   have h:=im (body:=apn 8 bJ.d2) (S:=fun i=>[.s nm,.i 0,.i 0,.i (i:Nat),.b f.pack,.l (f.bts.map Bt.e),.l (f.svs.map Sv.e),.l (f.cps.map Cp.e)]) (n:=f.cps.length) (b:=0) (ys:=[.i 0,.i 0])
    (fun i hi=>by
     have e3:((i:Int)<(f.cps.length:Int)):=by omega
     simp only[apL,jC,jD,bJ.d2,bJ.d1,C.I_i,C.L_l,C.S_s,jW,q1,he,e3,decide_true,jR,jZ,jS,jJ,C.B_b,w1 hi hl])
    (by simp[bJ.d2]) f.cps.length 0 rfl
   simp only[Int.natCast_zero] at h
   rw[h]
   simp[bJ.d3]
  |false=>
   have h:=im (body:=apn 8 bJ.d2) (S:=fun i=>[.s nm,.i (pM f.cps nm i),.i (pC f.cps nm i),.i (i:Nat),.b f.pack,.l (f.bts.map Bt.e),.l (f.svs.map Sv.e),.l (f.cps.map Cp.e)]) (n:=f.cps.length) (b:=0) (ys:=[.i (pM f.cps nm f.cps.length),.i (pC f.cps nm f.cps.length)])
    (fun i hi=>by
     have e3:((i:Int)<(f.cps.length:Int)):=by omega
     simp only[apL,jC,jD,bJ.d2,bJ.d1,C.I_i,C.L_l,C.S_s,jW,jY,getD_map' Cp.e hi,q1,he,e3,decide_true,jR,ja,jX,jJ,C.B_b,w1 hi hl,pM,pC,List.getElem?_eq_getElem hi]
     simp only[Cp.e,jC,jD,C.S_s,C.I_i]
     show (bif sEq f.cps[i].at_ nm then _ else _)=_
     cases sEq f.cps[i].at_ nm<;>simp)
    (by simp[bJ.d2]) f.cps.length 0 rfl
   simp only[Int.natCast_zero,pM,pC] at h
   rw[h]
   simp[bJ.d3]
theorem xL (f:Fl) (nm:Str) (hz:f.Sz 1048576):da (f.e++[.s nm])=some [.i (used f nm).1,.i (used f nm).2]:=by
 have hl:f.cps.length<big:=by have:=hz.2.2.1;simp only[big];omega
 have hb:=jg f nm hz.1.1
 have q1:(nm.toList==(bs #[]).toList)=sEq nm (mkS []):=rfl
 simp only[Fl.e,jA,jB] at hb
 simp only[da,da.d3,Fl.e,jA,jB,apL,jC,jD,C.S_s,q1,hb,aa,jI,C.I_i,C.L_l,jW,used]
 cases he:sEq nm (mkS []) with
 |true=>simp
 |false=>
  simp only[ja,jR,Bool.false_or]
  cases hlt:decide (bIx f nm<0) with
  |true=>simp
  |false=>
   have h:=im (body:=apn 6 da.d1) (S:=fun i=>[.s nm,.i (pM f.cps nm i),.i (pC f.cps nm i),.l (f.cps.map Cp.e),.i (f.cps.length:Nat),.i (i:Nat)]) (n:=f.cps.length) (b:=0) (ys:=[.i (pM f.cps nm f.cps.length),.i (pC f.cps nm f.cps.length)])
    (fun i hi=>by
     have e3:((i:Int)<(f.cps.length:Int)):=by omega
     simp only[apL,jC,jD,da.d1,C.I_i,C.L_l,C.S_s,jW,jY,getD_map' Cp.e hi,e3,decide_true,jR,jX,w1 hi hl,pM,pC,List.getElem?_eq_getElem hi]
     simp only[Cp.e,jC,jD,C.S_s,C.I_i]
     show (bif sEq f.cps[i].at_ nm then _ else _)=_
     cases sEq f.cps[i].at_ nm<;>simp)
    (by simp[da.d1]) f.cps.length 0 rfl
   simp only[Int.natCast_zero,pM,pC] at h
   rw[h]
   simp[da.d2]
end Go.Ev
namespace Go.Ev
theorem oT {α:Type} (p:α→Bool):∀(l:List α) (n:Nat),decide (dX p l n<0)=!l.any p
 |[],n=>by simp[dX]
 |x::r,n=>by
  cases hx:p x with
  |true=>
   have:¬((n:Int)<0):=by omega
   simp[dX,hx,this]
  |false=>simp[dX,hx,oT p r (n+1)]
def eU (l:List Cp) (nm:Str):Nat→Nat
 |0=>0
 |i+1=>match l[i]? with
  |some c=>bif sEq c.at_ nm then eU l nm i+1 else eU l nm i
  |none=>eU l nm i
theorem uE (l:List Cp) (nm:Str):∀i,eU l nm i≤i
 |0=>Nat.le_refl _
 |i+1=>by
  have:=uE l nm i
  simp only[eU]
  split
  ·rename_i c _
   cases sEq c.at_ nm<;>simp<;>omega
  ·omega
theorem Ax (f:Fl) (nm:Str) (hz:f.Sz 1048576):ek (f.e++[.s nm])=some [.i (eU f.cps nm f.cps.length:Nat)]:=by
 have hl:f.cps.length<big:=by have:=hz.2.2.1;simp only[big];omega
 have h:=im (body:=apn 7 ek.d1) (S:=fun i=>[.s nm,.i (eU f.cps nm i:Nat),.i (i:Nat),.b f.pack,.l (f.bts.map Bt.e),.l (f.svs.map Sv.e),.l (f.cps.map Cp.e)]) (n:=f.cps.length) (b:=0) (ys:=[.i (eU f.cps nm f.cps.length:Nat)])
  (fun i hi=>by
   have e3:((i:Int)<(f.cps.length:Int)):=by omega
   have hw:=BL (n:=eU f.cps nm i) (by have:=uE f.cps nm i;omega)
   simp only[apL,jC,jD,ek.d1,C.I_i,C.L_l,C.S_s,jW,jY,getD_map' Cp.e hi,e3,decide_true,jR,jX,w1 hi hl,hw,eU,List.getElem?_eq_getElem hi]
   simp only[Cp.e,jC,jD,C.S_s]
   show (bif sEq f.cps[i].at_ nm then _ else _)=_
   cases sEq f.cps[i].at_ nm<;>simp)
  (by simp[ek.d1]) f.cps.length 0 rfl
 simp only[Int.natCast_zero,eU] at h
 simp only[ek,ek.d3,Fl.e,jA,jB,apL,jC,jD]
 rw[h]
 simp[ek.d2]
def svA (f:Fl) (i:Nat):Bool:=match f.svs[i]? with
 |some s=>bf s.name&&((i==0||match f.svs[i-1]? with|some q=>sLt q.name s.name|none=>true)&&within s.spare 0 60)
 |none=>true
def cpA (f:Fl) (i:Nat):Bool:=match f.cps[i]? with
 |some c=>mw c&&(f.svs.any (fun s=>sEq s.name c.svc)&&((i==0||match f.cps[i-1]? with|some q=>sLt q.name c.name|none=>true)&&(sEq c.at_ (mkS [])||f.bts.any (fun b=>sEq b.name c.at_))))
 |none=>true
def btA (f:Fl) (i:Nat):Bool:=match f.bts[i]? with
 |some b=>fQ b&&(i==0||match f.bts[i-1]? with|some q=>sLt q.name b.name|none=>true)
 |none=>true
def uK (f:Fl) (i:Nat):Bool:=match f.bts[i]? with
 |some b=>decide ((used f b.name).1≤b.room)&&(decide ((used f b.name).2≤b.hold)&&decide (eU f.cps b.name f.cps.length≤10))
 |none=>true
def dz (f:Fl):Bool:=decide (f.bts.length≤12)&&(decide (f.svs.length≤30)&&(decide (f.cps.length≤60)&&(aP (svA f) 0 f.svs.length&&(aP (cpA f) 0 f.cps.length&&(aP (btA f) 0 f.bts.length&&aP (uK f) 0 f.bts.length)))))
section
variable {f:Fl} (hz:f.Sz 1048576)
include hz
theorem Ix (K:List C→R):aq 0 (lim (apn 5 az.d1) ([.i 0]++f.e)) K=bif aP (svA f) 0 f.svs.length then K f.e else some (.ret [.b false]):=by
 have hl:f.svs.length<big:=by have:=hz.2.1.1;simp only[big];omega
 have h:=fY (body:=apn 5 az.d1) (S:=fun i=>[.i (i:Nat)]++f.e) (p:=svA f) (n:=f.svs.length) (b:=0) (ys:=f.e) (r:=[.b false])
  (fun i hi=>by
   have hsz:=hz.2.1.2 _ (List.getElem_mem hi)
   have e3:((i:Int)<(f.svs.length:Int)):=by omega
   have hp:svA f i=(bf f.svs[i].name&&((i==0||match f.svs[i-1]? with|some q=>sLt q.name f.svs[i].name|none=>true)&&within f.svs[i].spare 0 60)):=by simp[svA,hi]
   simp only[Fl.e,jA,jB,apL,jC,jD,az.d1,C.I_i,C.L_l,jW,jY,getD_map' Sv.e hi,w1 hi hl,e3,decide_true,jR,jX,hp]
   simp only[Sv.e,jC,jD,cD _ hsz,gq,aa,jI,C.B_b,C.S_s]
   cases hn:bf f.svs[i].name with
   |false=>simp
   |true=>
    rcases Nat.eq_zero_or_pos i with h0|h0
    ·subst h0
     cases within f.svs[0].spare 0 60<;>simp
    ·have hi1:i-1<f.svs.length:=by omega
     have hw:w64 ((i:Int)-1)=((i-1:Nat):Int):=by rw[ed (by omega) (by simp only[big] at hl;omega)];omega
     have e1:((i:Int)>0):=by omega
     have e2:(((i-1:Nat):Int)<(f.svs.length:Int)):=by omega
     have e4:(i==0)=false:=by simp;omega
     simp only[hw,jY,getD_map' Sv.e hi1,e1,e2,e4,decide_true,jR,jX,List.getElem?_eq_getElem hi1,Bool.false_or,jZ,ja,Bool.true_and]
     simp only[Sv.e,jC,C.S_s]
     show (bif (!(!sLt f.svs[i-1].name f.svs[i].name)) then _ else _)=_
     cases sLt f.svs[i-1].name f.svs[i].name<;>cases within f.svs[i].spare 0 60<;>simp)
  (by simp[az.d1,Fl.e]) f.svs.length 0 rfl
 simp only[Int.natCast_zero] at h
 rw[h]
 cases aP (svA f) 0 f.svs.length<;>simp
theorem It (hn:∀s,s∈f.svs→bf s.name=true) (K:List C→R):aq 2 (lim (apn 5 az.d3) ([.i 0]++f.e)) K=bif aP (cpA f) 0 f.cps.length then K f.e else some (.ret [.b false]):=by
 have hl:f.cps.length<big:=by have:=hz.2.2.1;simp only[big];omega
 have h:=fY (body:=apn 5 az.d3) (S:=fun i=>[.i (i:Nat)]++f.e) (p:=cpA f) (n:=f.cps.length) (b:=2) (ys:=f.e) (r:=[.b false])
  (fun i hi=>by
   have hsz:=hz.2.2.2 _ (List.getElem_mem hi)
   have e3:((i:Int)<(f.cps.length:Int)):=by omega
   have hp:cpA f i=(mw f.cps[i]&&(f.svs.any (fun s=>sEq s.name f.cps[i].svc)&&((i==0||match f.cps[i-1]? with|some q=>sLt q.name f.cps[i].name|none=>true)&&(sEq f.cps[i].at_ (mkS [])||f.bts.any (fun b=>sEq b.name f.cps[i].at_))))):=by simp[cpA,hi]
   have hsv:=w8 f f.cps[i].svc hz.2.1.1
   have hbt:=mc f f.cps[i].at_ hz.1.1
   have hco:=yD f.cps[i] hsz
   have q1:(f.cps[i].at_.toList==(bs #[]).toList)=sEq f.cps[i].at_ (mkS []):=rfl
   have hs1:decide (sIx f f.cps[i].svc<0)=!f.svs.any (fun s=>sEq s.name f.cps[i].svc):=oT _ _ _
   have hb1:decide (bIx f f.cps[i].at_<0)=!f.bts.any (fun b=>sEq b.name f.cps[i].at_):=oT _ _ _
   have hany:f.svs.any (fun s=>sEq s.name f.cps[i].svc)=true→bf f.cps[i].svc=true:=fun h=>by
    obtain ⟨s,h1,h2⟩:=List.any_eq_true.1 h
    rw[←(gR _ _).1 h2];exact hn s h1
   simp only[Fl.e,jA,jB] at hsv hbt
   simp only[Cp.e] at hco
   simp only[Fl.e,jA,jB,apL,jC,jD,az.d3,C.I_i,C.L_l,jW,jY,getD_map' Cp.e hi,e3,decide_true,jR,jX,hp]
   simp only[Cp.e,jC,jD,hco,hsv,hbt,aa,jI,C.B_b,C.S_s,C.I_i,q1,hs1,hb1]
   have hd2:∀b:Bool,az.d2 (.i (i:Nat)) (.b b) (.b f.pack) (.l (f.bts.map Bt.e)) (.l (f.svs.map Sv.e)) (.l (f.cps.map Cp.e))=bif b then some (.ret [.b false]) else some (.again [.i (i+1:Nat),.b f.pack,.l (f.bts.map Bt.e),.l (f.svs.map Sv.e),.l (f.cps.map Cp.e)]):=fun b=>by
    simp only[az.d2,C.B_b,C.I_i,w1 hi hl]
   cases hany2:f.svs.any (fun s=>sEq s.name f.cps[i].svc) with
   |false=>
    have:∀a b:Bool,(a&&(false&&b))=false:=by decide
    rw[this]
    cases bf f.cps[i].svc&&mw f.cps[i] with
    |false=>simp[hd2]
    |true=>
     rcases Nat.eq_zero_or_pos i with h0|h0
     ·subst h0
      simp only[Int.natCast_zero] at hd2
      simp[hd2]
     ·have hi1:i-1<f.cps.length:=by omega
      have hw:w64 ((i:Int)-1)=((i-1:Nat):Int):=by rw[ed (by omega) (by simp only[big] at hl;omega)];omega
      have e1:((i:Int)>0):=by omega
      have e2:(((i-1:Nat):Int)<(f.cps.length:Int)):=by omega
      simp only[hw,jY,getD_map' Cp.e hi1,e1,e2,decide_true,jR,jX,jZ,ja,jS]
      cases (Op.bytesLess ((f.cps[i-1].e.getD 0 .nil).S).toList (f.cps[i].name).toList)<;>simp[hd2]
   |true=>
    rw[hany hany2,Bool.true_and,Bool.true_and]
    cases mw f.cps[i] with
    |false=>simp[hd2]
    |true=>
     rcases Nat.eq_zero_or_pos i with h0|h0
     ·subst h0
      simp only[Int.natCast_zero] at hd2
      cases sEq f.cps[0].at_ (mkS [])<;>cases f.bts.any (fun b=>sEq b.name f.cps[0].at_)<;>simp[hd2]
     ·have hi1:i-1<f.cps.length:=by omega
      have hw:w64 ((i:Int)-1)=((i-1:Nat):Int):=by rw[ed (by omega) (by simp only[big] at hl;omega)];omega
      have e1:((i:Int)>0):=by omega
      have e2:(((i-1:Nat):Int)<(f.cps.length:Int)):=by omega
      have e4:(i==0)=false:=by simp;omega
      simp only[hw,jY,getD_map' Cp.e hi1,e1,e2,e4,decide_true,jR,jX,List.getElem?_eq_getElem hi1,Bool.false_or,jZ,ja,jS,Bool.true_and]
      have hn0:(f.cps[i-1].e.getD 0 .nil).S=f.cps[i-1].name:=rfl
      rw[hn0]
      show cJ (bif (!(!sLt f.cps[i-1].name f.cps[i].name)) then _ else _) _=_
      cases sLt f.cps[i-1].name f.cps[i].name<;>cases sEq f.cps[i].at_ (mkS [])<;>cases f.bts.any (fun b=>sEq b.name f.cps[i].at_)<;>simp[hd2])
  (by simp[az.d3,Fl.e]) f.cps.length 0 rfl
 simp only[Int.natCast_zero] at h
 rw[h]
 cases aP (cpA f) 0 f.cps.length<;>simp
theorem Iy (K:List C→R):aq 4 (lim (apn 5 az.d4) ([.i 0]++f.e)) K=bif aP (fun i=>btA f i&&uK f i) 0 f.bts.length then K [] else some (.ret [.b false]):=by
 have hl:f.bts.length<big:=by have:=hz.1.1;simp only[big];omega
 have h:=fY (body:=apn 5 az.d4) (S:=fun i=>[.i (i:Nat)]++f.e) (p:=fun i=>btA f i&&uK f i) (n:=f.bts.length) (b:=4) (ys:=[]) (r:=[.b false])
  (fun i hi=>by
   have hsz:=hz.1.2 _ (List.getElem_mem hi)
   have e3:((i:Int)<(f.bts.length:Int)):=by omega
   have hp:btA f i=(fQ f.bts[i]&&(i==0||match f.bts[i-1]? with|some q=>sLt q.name f.bts[i].name|none=>true)):=by simp[btA,hi]
   have hq:uK f i=(decide ((used f f.bts[i].name).1≤f.bts[i].room)&&(decide ((used f f.bts[i].name).2≤f.bts[i].hold)&&decide (eU f.cps f.bts[i].name f.cps.length≤10))):=by simp[uK,hi]
   have hu:=xa f f.bts[i].name hz
   have hs:=Ax f f.bts[i].name hz
   have hb:=wM f.bts[i] hsz
   have g1:decide ((used f f.bts[i].name).1>f.bts[i].room)=!decide ((used f f.bts[i].name).1≤f.bts[i].room):=by rw[←decide_not,decide_eq_decide];omega
   have g2:decide ((used f f.bts[i].name).2>f.bts[i].hold)=!decide ((used f f.bts[i].name).2≤f.bts[i].hold):=by rw[←decide_not,decide_eq_decide];omega
   have g3:decide ((eU f.cps f.bts[i].name f.cps.length:Int)>10)=!decide (eU f.cps f.bts[i].name f.cps.length≤10):=by rw[←decide_not,decide_eq_decide];omega
   simp only[Fl.e,jA,jB] at hu hs
   simp only[Bt.e] at hb
   simp only[Fl.e,jA,jB,apL,jC,jD,az.d4,C.I_i,C.L_l,jW,jY,getD_map' Bt.e hi,e3,decide_true,jR,jX,w1 hi hl]
   simp only[Bt.e,jC,jD,hu,hs,hb,aa,call2,jI,C.B_b,C.S_s,C.I_i,g1,g2,g3,hp,hq,Bool.not_not]
   cases fQ f.bts[i] with
   |false=>simp
   |true=>
    rcases Nat.eq_zero_or_pos i with h0|h0
    ·subst h0
     cases decide ((used f f.bts[0].name).1≤f.bts[0].room)<;>cases decide ((used f f.bts[0].name).2≤f.bts[0].hold)<;>cases decide (eU f.cps f.bts[0].name f.cps.length≤10)<;>simp
    ·have hi1:i-1<f.bts.length:=by omega
     have hw:w64 ((i:Int)-1)=((i-1:Nat):Int):=by rw[ed (by omega) (by simp only[big] at hl;omega)];omega
     have e1:((i:Int)>0):=by omega
     have e2:(((i-1:Nat):Int)<(f.bts.length:Int)):=by omega
     have e4:(i==0)=false:=by simp;omega
     simp only[hw,jY,getD_map' Bt.e hi1,e1,e2,e4,decide_true,jR,jX,List.getElem?_eq_getElem hi1,Bool.false_or,jZ,ja,jS,Bool.true_and]
     have hn0:(f.bts[i-1].e.getD 0 .nil).S=f.bts[i-1].name:=rfl
     rw[hn0]
     show (bif sLt f.bts[i-1].name f.bts[i].name then _ else _)=_
     cases sLt f.bts[i-1].name f.bts[i].name<;>cases decide ((used f f.bts[i].name).1≤f.bts[i].room)<;>cases decide ((used f f.bts[i].name).2≤f.bts[i].hold)<;>cases decide (eU f.cps f.bts[i].name f.cps.length≤10)<;>simp)
  (by simp[az.d4,Fl.e]) f.bts.length 0 rfl
 simp only[Int.natCast_zero] at h
 rw[h]
 cases aP (fun i=>btA f i&&uK f i) 0 f.bts.length<;>simp
omit hz in
theorem Dc (h:aP (svA f) 0 f.svs.length=true):∀s,s∈f.svs→bf s.name=true:=by
 intro s hs
 obtain ⟨i,hi,rfl⟩:=List.getElem_of_mem hs
 have:=(iq _ _ _).1 h i (Nat.zero_le _) (by omega)
 simp only[svA,List.getElem?_eq_getElem hi,Bool.and_eq_true] at this
 exact this.1
omit hz in
theorem vF (p q:Nat→Bool):∀k i,aP (fun i=>p i&&q i) i k=(aP p i k&&aP q i k)
 |0,i=>rfl
 |k+1,i=>by
  simp only[aP,vF p q k (i+1)]
  cases p i<;>cases q i<;>cases aP p (i+1) k<;>simp
theorem pF:az f.e=some [.b (dz f)]:=by
 have h1:=Ix hz (apn 4 az.d7)
 have h3:=Iy hz (fun xs=>az.d5)
 simp only[Fl.e,jA,jB] at h1 h3
 have g1:decide ((f.bts.length:Int)>12)=!decide (f.bts.length≤12):=by rw[←decide_not,decide_eq_decide];omega
 have g2:decide ((f.svs.length:Int)>30)=!decide (f.svs.length≤30):=by rw[←decide_not,decide_eq_decide];omega
 have g3:decide ((f.cps.length:Int)>60)=!decide (f.cps.length≤60):=by rw[←decide_not,decide_eq_decide];omega
 simp only[az,az.d8,Fl.e,apL,jC,jD,C.L_l,jW,g1,g2,g3,Bool.not_not,h1,dz]
 cases decide (f.bts.length≤12) with
 |false=>simp
 |true=>
 cases decide (f.svs.length≤30) with
 |false=>simp
 |true=>
 cases decide (f.cps.length≤60) with
 |false=>simp
 |true=>
 cases hs:aP (svA f) 0 f.svs.length with
 |false=>simp
 |true=>
  have h2:=It hz (Dc hs) (apn 4 az.d6)
  simp only[Fl.e,jA,jB] at h2
  simp only[jR,jZ,jS,Bool.true_and,az.d7,apL,jC,jD,h2]
  cases aP (cpA f) 0 f.cps.length with
  |false=>simp
  |true=>
   simp only[jR,Bool.true_and,az.d6,apL,jC,jD,h3,vF]
   cases aP (btA f) 0 f.bts.length<;>cases aP (uK f) 0 f.bts.length<;>simp[az.d5]
end
end Go.Ev
namespace Go.Ev
def ui (l:List Sv):Nat→List (List C)
 |0=>[]
 |i+1=>match l[i]? with
  |some s=>mX s.name (.b true) (ui l i)
  |none=>ui l i
theorem Bs (l:List Sv) (nm:Str):∀i,i≤l.length→(lT (.b false) nm (ui l i)).B=(l.take i).any (fun s=>sEq s.name nm)
 |0,_=>rfl
 |i+1,h=>by
  have hi:i<l.length:=h
  rw[ui,List.getElem?_eq_getElem hi]
  simp only
  rw[ra,List.take_succ_eq_append_getElem hi,List.any_append,xp]
  have ih:=Bs l nm i (by omega)
  cases hq:sEq l[i].name nm with
  |true=>simp[hq]
  |false=>simp[hq,ih]
def tg (l:List Cp):Nat→List (List C)
 |0=>[]
 |i+1=>match l[i]? with
  |some c=>mX c.at_ (.i (w64 ((lT (.i 0) c.at_ (tg l i)).I+1))) (tg l i)
  |none=>tg l i
theorem yl (l:List Cp) (hl:l.length<big) (nm:Str):∀i,i≤l.length→lT (.i 0) nm (tg l i)=.i (eU l nm i:Nat)
 |0,_=>rfl
 |i+1,h=>by
  have hi:i<l.length:=h
  have ih:=yl l hl nm i (by omega)
  have ih2:=yl l hl l[i].at_ i (by omega)
  rw[tg,eU,List.getElem?_eq_getElem hi]
  simp only
  rw[ra,ih,ih2,xp]
  have hw:=BL (n:=eU l l[i].at_ i) (by have:=uE l l[i].at_ i;omega)
  cases hq:sEq l[i].at_ nm with
  |true=>
   have:=(gR _ _).1 hq
   subst this
   simp only[jR,C.I_i,hw]
  |false=>rfl
section
variable {f:Fl} (hz:f.Sz 1048576)
include hz
theorem Ir (K:List C→R):aq 0 (lim (apn 7 ad.d1) ([.l (f.bts.map Bt.e),.i (f.bts.length:Nat),.i 0]++f.e)) K=bif aP (btA f) 0 f.bts.length then K f.e else some (.ret [.b false]):=by
 have hl:f.bts.length<big:=by have:=hz.1.1;simp only[big];omega
 have h:=fY (body:=apn 7 ad.d1) (S:=fun i=>[.l (f.bts.map Bt.e),.i (f.bts.length:Nat),.i (i:Nat)]++f.e) (p:=btA f) (n:=f.bts.length) (b:=0) (ys:=f.e) (r:=[.b false])
  (fun i hi=>by
   have hsz:=hz.1.2 _ (List.getElem_mem hi)
   have e3:((i:Int)<(f.bts.length:Int)):=by omega
   have hp:btA f i=(fQ f.bts[i]&&(i==0||match f.bts[i-1]? with|some q=>sLt q.name f.bts[i].name|none=>true)):=by simp only[btA,List.getElem?_eq_getElem hi]<;>rfl
   have hb:=yq f.bts[i] hsz
   simp only[Bt.e] at hb
   simp only[Fl.e,jA,jB,apL,jC,jD,ad.d1,C.I_i,C.L_l,jW,jY,getD_map' Bt.e hi,e3,decide_true,jR,jX,w1 hi hl]
   simp only[Bt.e,jC,jD,hb,aa,jI,C.B_b,C.S_s,hp]
   cases fQ f.bts[i] with
   |false=>simp
   |true=>
    rcases Nat.eq_zero_or_pos i with h0|h0
    ·subst h0;simp
    ·have hi1:i-1<f.bts.length:=by omega
     have hw:w64 ((i:Int)-1)=((i-1:Nat):Int):=by rw[ed (by omega) (by simp only[big] at hl;omega)];omega
     have e1:((i:Int)>0):=by omega
     have e2:(((i-1:Nat):Int)<(f.bts.length:Int)):=by omega
     have e4:(i==0)=false:=by simp;omega
     have hn0:(f.bts[i-1].e.getD 0 .nil).S=f.bts[i-1].name:=rfl
     simp only[hw,jY,getD_map' Bt.e hi1,e1,e2,e4,decide_true,jR,jX,List.getElem?_eq_getElem hi1,Bool.false_or,jZ,ja,jS,Bool.true_and,hn0,ua]
     cases sLt f.bts[i-1].name f.bts[i].name<;>simp)
  (by simp[ad.d1,Fl.e]) f.bts.length 0 rfl
 simp only[Int.natCast_zero] at h
 rw[h]
 cases aP (btA f) 0 f.bts.length<;>simp
theorem IE (K:List C→R):aq 2 (lim (apn 8 ad.d2) ([.l (f.svs.map Sv.e),.i (f.svs.length:Nat),.i 0]++f.e++[.l []])) K=bif aP (svA f) 0 f.svs.length then K (f.e++[.l (ui f.svs f.svs.length)]) else some (.ret [.b false]):=by
 have hl:f.svs.length<big:=by have:=hz.2.1.1;simp only[big];omega
 have h:=fY (body:=apn 8 ad.d2) (S:=fun i=>[.l (f.svs.map Sv.e),.i (f.svs.length:Nat),.i (i:Nat)]++f.e++[.l (ui f.svs i)]) (p:=svA f) (n:=f.svs.length) (b:=2) (ys:=f.e++[.l (ui f.svs f.svs.length)]) (r:=[.b false])
  (fun i hi=>by
   have hsz:=hz.2.1.2 _ (List.getElem_mem hi)
   have e3:((i:Int)<(f.svs.length:Int)):=by omega
   have hp:svA f i=(bf f.svs[i].name&&((i==0||match f.svs[i-1]? with|some q=>sLt q.name f.svs[i].name|none=>true)&&within f.svs[i].spare 0 60)):=by simp only[svA,List.getElem?_eq_getElem hi]<;>rfl
   simp only[Fl.e,jA,jB,apL,jC,jD,ad.d2,C.I_i,C.L_l,jW,jY,getD_map' Sv.e hi,w1 hi hl,e3,decide_true,jR,jX,hp,ui,List.getElem?_eq_getElem hi]
   simp only[Sv.e,jC,jD,fL _ hsz,nk,aa,jI,C.B_b,C.S_s]
   cases hn:bf f.svs[i].name with
   |false=>simp
   |true=>
    cases within f.svs[i].spare 0 60 with
    |false=>simp
    |true=>
     rcases Nat.eq_zero_or_pos i with h0|h0
     ·subst h0;simp
     ·have hi1:i-1<f.svs.length:=by omega
      have hw:w64 ((i:Int)-1)=((i-1:Nat):Int):=by rw[ed (by omega) (by simp only[big] at hl;omega)];omega
      have e1:((i:Int)>0):=by omega
      have e2:(((i-1:Nat):Int)<(f.svs.length:Int)):=by omega
      have e4:(i==0)=false:=by simp;omega
      have hn0:(f.svs[i-1].e.getD 0 .nil).S=f.svs[i-1].name:=rfl
      simp only[hw,jY,getD_map' Sv.e hi1,e1,e2,e4,decide_true,jR,jX,List.getElem?_eq_getElem hi1,Bool.false_or,jZ,ja,jS,Bool.true_and,hn0,ua]
      cases sLt f.svs[i-1].name f.svs[i].name<;>simp)
  (by simp[ad.d2,Fl.e]) f.svs.length 0 rfl
 simp only[Int.natCast_zero,ui] at h
 rw[h]
 cases aP (svA f) 0 f.svs.length<;>simp
theorem Ip (K:List C→R):aq 4 (lim (apn 9 ad.d4) ([.l (f.cps.map Cp.e),.i (f.cps.length:Nat),.i 0]++f.e++[.l (ui f.svs f.svs.length),.l []])) K=bif aP (cpA f) 0 f.cps.length then K (f.e++[.l (tg f.cps f.cps.length)]) else some (.ret [.b false]):=by
 have hl:f.cps.length<big:=by have:=hz.2.2.1;simp only[big];omega
 have h:=fY (body:=apn 9 ad.d4) (S:=fun i=>[.l (f.cps.map Cp.e),.i (f.cps.length:Nat),.i (i:Nat)]++f.e++[.l (ui f.svs f.svs.length),.l (tg f.cps i)]) (p:=cpA f) (n:=f.cps.length) (b:=4) (ys:=f.e++[.l (tg f.cps f.cps.length)]) (r:=[.b false])
  (fun i hi=>by
   have hsz:=hz.2.2.2 _ (List.getElem_mem hi)
   have e3:((i:Int)<(f.cps.length:Int)):=by omega
   have hp:cpA f i=(mw f.cps[i]&&(f.svs.any (fun s=>sEq s.name f.cps[i].svc)&&((i==0||match f.cps[i-1]? with|some q=>sLt q.name f.cps[i].name|none=>true)&&(sEq f.cps[i].at_ (mkS [])||f.bts.any (fun b=>sEq b.name f.cps[i].at_))))):=by simp only[cpA,List.getElem?_eq_getElem hi]<;>rfl
   have hbt:=jg f f.cps[i].at_ hz.1.1
   have hco:=AF f.cps[i] hsz
   have q1:(f.cps[i].at_.toList==(bs #[]).toList)=sEq f.cps[i].at_ (mkS []):=rfl
   have hb1:decide (bIx f f.cps[i].at_<0)=!f.bts.any (fun b=>sEq b.name f.cps[i].at_):=oT _ _ _
   have hsm:=Bs f.svs f.cps[i].svc f.svs.length (Nat.le_refl _)
   rw[List.take_length] at hsm
   simp only[Fl.e,jA,jB] at hbt
   simp only[Cp.e] at hco
   simp only[Fl.e,jA,jB,apL,jC,jD,ad.d4,C.I_i,C.L_l,jW,jY,getD_map' Cp.e hi,e3,decide_true,jR,jX,hp]
   simp only[Cp.e,jC,jD,hco,hbt,aa,jI,C.B_b,C.S_s,C.I_i,q1,hb1,hsm]
   have hd3:∀(b:Bool),ad.d3 (.l (f.cps.map Cp.e)) (.i (f.cps.length:Nat)) (.i (i:Nat)) (.b b) (.b f.pack) (.l (f.bts.map Bt.e)) (.l (f.svs.map Sv.e)) (.l (f.cps.map Cp.e)) (.l (ui f.svs f.svs.length)) (.l (tg f.cps i)) (.s f.cps[i].name) (.s f.cps[i].svc) (.i f.cps[i].rank) (.i f.cps[i].born) (.i f.cps[i].room) (.i f.cps[i].hold) (.s f.cps[i].sel) (.l (f.cps[i].likes.map Lk.e)) (.i f.cps[i].apart) (.s f.cps[i].near) (.s f.cps[i].fixed) (.s f.cps[i].at_)=bif b then some (.ret [.b false]) else some (.again [.l (f.cps.map Cp.e),.i (f.cps.length:Nat),.i (i+1:Nat),.b f.pack,.l (f.bts.map Bt.e),.l (f.svs.map Sv.e),.l (f.cps.map Cp.e),.l (ui f.svs f.svs.length),.l (tg f.cps (i+1))]):=fun b=>by
    simp only[ad.d3,C.B_b,C.I_i,C.L_l,C.S_s,w1 hi hl,tg,List.getElem?_eq_getElem hi]
   cases mw f.cps[i] with
   |false=>simp[hd3]
   |true=>
    cases f.svs.any (fun s=>sEq s.name f.cps[i].svc) with
    |false=>simp[hd3]
    |true=>
     rcases Nat.eq_zero_or_pos i with h0|h0
     ·subst h0
      simp only[Int.natCast_zero] at hd3
      cases sEq f.cps[0].at_ (mkS [])<;>cases f.bts.any (fun b=>sEq b.name f.cps[0].at_)<;>simp[hd3]
     ·have hi1:i-1<f.cps.length:=by omega
      have hw:w64 ((i:Int)-1)=((i-1:Nat):Int):=by rw[ed (by omega) (by simp only[big] at hl;omega)];omega
      have e1:((i:Int)>0):=by omega
      have e2:(((i-1:Nat):Int)<(f.cps.length:Int)):=by omega
      have e4:(i==0)=false:=by simp;omega
      have hn0:(f.cps[i-1].e.getD 0 .nil).S=f.cps[i-1].name:=rfl
      simp only[hw,jY,getD_map' Cp.e hi1,e1,e2,e4,decide_true,jR,jX,List.getElem?_eq_getElem hi1,Bool.false_or,jZ,ja,jS,Bool.true_and,hn0,ua]
      cases sLt f.cps[i-1].name f.cps[i].name<;>cases sEq f.cps[i].at_ (mkS [])<;>cases f.bts.any (fun b=>sEq b.name f.cps[i].at_)<;>simp[hd3])
  (by simp[ad.d4,Fl.e]) f.cps.length 0 rfl
 simp only[Int.natCast_zero,tg] at h
 rw[h]
 cases aP (cpA f) 0 f.cps.length<;>simp
theorem II (K:List C→R):aq 6 (lim (apn 8 ad.d5) ([.l (f.bts.map Bt.e),.i (f.bts.length:Nat),.i 0]++f.e++[.l (tg f.cps f.cps.length)])) K=bif aP (uK f) 0 f.bts.length then K [] else some (.ret [.b false]):=by
 have hl:f.bts.length<big:=by have:=hz.1.1;simp only[big];omega
 have hlc:f.cps.length<big:=by have:=hz.2.2.1;simp only[big];omega
 have h:=fY (body:=apn 8 ad.d5) (S:=fun i=>[.l (f.bts.map Bt.e),.i (f.bts.length:Nat),.i (i:Nat)]++f.e++[.l (tg f.cps f.cps.length)]) (p:=uK f) (n:=f.bts.length) (b:=6) (ys:=[]) (r:=[.b false])
  (fun i hi=>by
   have e3:((i:Int)<(f.bts.length:Int)):=by omega
   have hq:uK f i=(decide ((used f f.bts[i].name).1≤f.bts[i].room)&&(decide ((used f f.bts[i].name).2≤f.bts[i].hold)&&decide (eU f.cps f.bts[i].name f.cps.length≤10))):=by simp[uK,hi]
   have hu:=xL f f.bts[i].name hz
   have hmc:=yl f.cps hlc f.bts[i].name f.cps.length (Nat.le_refl _)
   have g1:decide ((used f f.bts[i].name).1>f.bts[i].room)=!decide ((used f f.bts[i].name).1≤f.bts[i].room):=by rw[←decide_not,decide_eq_decide];omega
   have g2:decide ((used f f.bts[i].name).2>f.bts[i].hold)=!decide ((used f f.bts[i].name).2≤f.bts[i].hold):=by rw[←decide_not,decide_eq_decide];omega
   have g3:decide ((eU f.cps f.bts[i].name f.cps.length:Int)>10)=!decide (eU f.cps f.bts[i].name f.cps.length≤10):=by rw[←decide_not,decide_eq_decide];omega
   simp only[Fl.e,jA,jB] at hu
   simp only[Fl.e,jA,jB,apL,jC,jD,ad.d5,C.I_i,C.L_l,jW,jY,getD_map' Bt.e hi,e3,decide_true,jR,jX,w1 hi hl]
   simp only[Bt.e,jC,jD,hu,call2,jI,C.S_s,C.I_i,hmc,g1,g2,g3,hq,Bool.not_not]
   cases decide ((used f f.bts[i].name).1≤f.bts[i].room)<;>cases decide ((used f f.bts[i].name).2≤f.bts[i].hold)<;>cases decide (eU f.cps f.bts[i].name f.cps.length≤10)<;>simp)
  (by simp[ad.d5,Fl.e]) f.bts.length 0 rfl
 simp only[Int.natCast_zero] at h
 rw[h]
 cases aP (uK f) 0 f.bts.length<;>simp
theorem cA:ad f.e=some [.b (dz f)]:=by
 have h1:=Ir hz (apn 4 ad.d9)
 have h2:=IE hz (apn 5 ad.d8)
 have h3:=Ip hz (apn 5 ad.d7)
 have h4:=II hz (fun xs=>ad.d6)
 simp only[Fl.e,jA,jB] at h1 h2 h3 h4
 have g1:decide ((f.bts.length:Int)>12)=!decide (f.bts.length≤12):=by rw[←decide_not,decide_eq_decide];omega
 have g2:decide ((f.svs.length:Int)>30)=!decide (f.svs.length≤30):=by rw[←decide_not,decide_eq_decide];omega
 have g3:decide ((f.cps.length:Int)>60)=!decide (f.cps.length≤60):=by rw[←decide_not,decide_eq_decide];omega
 simp only[ad,ad.d10,Fl.e,apL,jC,jD,C.L_l,jW,g1,g2,g3,Bool.not_not,h1,dz]
 cases decide (f.bts.length≤12) with
 |false=>simp
 |true=>
 cases decide (f.svs.length≤30) with
 |false=>simp
 |true=>
 cases decide (f.cps.length≤60) with
 |false=>simp
 |true=>
 cases hb:aP (btA f) 0 f.bts.length with
 |false=>simp
 |true=>
 simp only[jR,jZ,jS,Bool.true_and,ad.d9,apL,jC,jD,C.L_l,jW,aB,h2]
 cases hs:aP (svA f) 0 f.svs.length with
 |false=>simp
 |true=>
 simp only[jR,Bool.true_and,ad.d8,apL,jC,jD,C.L_l,jW,aB,h3]
 cases hc:aP (cpA f) 0 f.cps.length with
 |false=>simp
 |true=>
 simp only[jR,Bool.true_and,ad.d7,apL,jC,jD,C.L_l,jW,h4]
 cases aP (uK f) 0 f.bts.length<;>simp[ad.d6]
end
end Go.Ev
namespace Go.Ev
theorem vp {α:Type} (p:α→Bool):∀(l:List α) (n:Nat),dX p l n<0∨∃i,∃h:i<l.length,dX p l n=((n+i:Nat):Int)∧p l[i]=true
 |[],n=>.inl (by simp[dX])
 |x::r,n=>by
  cases hx:p x with
  |true=>exact .inr ⟨0,by simp,by simp[dX,hx],by simpa using hx⟩
  |false=>
   rcases vp p r (n+1) with h|⟨i,h,h1,h2⟩
   ·exact .inl (by simpa [dX,hx] using h)
   ·exact .inr ⟨i+1,by simpa using h,by simp[dX,hx,h1];omega,by simpa using h2⟩
def HL (f:Fl) (g:List Str) (i:Nat):Bool:=match f.cps[(cIx f (sAt g i)).toNat]? with
 |some c=>decide (0≤cIx f (sAt g i))&&(!sEq c.at_ (mkS [])&&(i==0||sLt (sAt g (i-1)) (sAt g i)))
 |none=>false
def Hs (f:Fl) (g:List Str) (i:Nat):Str:=match f.cps[(cIx f (sAt g i)).toNat]? with
 |some c=>c.svc
 |none=>mkS []
def Fm (f:Fl) (g:List Str) (nm:Str):Nat→Nat
 |0=>0
 |i+1=>bif sEq (Hs f g i) nm then Fm f g nm i+1 else Fm f g nm i
def FY (l:List Cp) (nm:Str):Nat→Nat
 |0=>0
 |i+1=>match l[i]? with
  |some c=>bif sEq c.svc nm&&sEq c.at_ (mkS []) then FY l nm i+1 else FY l nm i
  |none=>FY l nm i
def IC (f:Fl) (g:List Str) (i:Nat):Bool:=match f.svs[i]? with
 |some s=>Fm f g s.name g.length==0||decide ((Fm f g s.name g.length:Int)≤s.spare-FY f.cps s.name f.cps.length)
 |none=>true
def Hy (f:Fl) (g:List Str):Bool:=aP (HL f g) 0 g.length&&aP (IC f g) 0 f.svs.length
section
variable {f:Fl} {g:List Str} (hz:f.Sz 1048576) (hg:Ao 1048576 g)
include hz hg
omit hz in
end
end Go.Ev
namespace Go.Ev
def Ia (k:Nat) (n v:Tok) (m:Str):Bool:=sO m&&(sEq (gN m) (mkS n)&&(k==1||sEq (ln m) (mkS v)))
def Tr.meets (ms:List Str):Tr→Bool
 |.lf k n v=>k==0||ms.any (Ia k n v)
 |.un t=>!t.meets ms
 |.bn k a b=>bif k==4 then a.meets ms&&b.meets ms else a.meets ms||b.meets ms
section
variable {ms:List Str} (hz:Ao 1048576 ms)
include hz
end
end Go.Ev
namespace Go.Ev
def PR.tr:PR→Option Tr
 |.err _=>none
 |.all=>some (.lf 0 [] [])
 |.tree t=>some t
def H0 (z:Str):Str:=bs #[122,111,110,101,61]++z
def GW (b:Bt):List Str:=b.marks++[H0 b.zone]
def H9 (s:Str) (b:Bt):Bool:=match (pp s).tr with
 |some t=>t.meets (GW b)
 |none=>false
end Go.Ev
namespace Go.Ev
def BI (f:Fl) (nm:Str):Str:=if bIx f nm<0 then mkS [] else match f.bts[(bIx f nm).toNat]? with
 |some b=>b.zone
 |none=>mkS []
theorem Cb (f:Fl) (nm:Str):bIx f nm<0∨∃k,∃h:k<f.bts.length,bIx f nm=(k:Nat)∧sEq f.bts[k].name nm=true:=by
 rcases vp (fun x:Bt=>sEq x.name nm) f.bts 0 with h|⟨k,hk,h1,h2⟩
 ·exact .inl h
 ·exact .inr ⟨k,hk,by rw[←Nat.zero_add k];exact h1,h2⟩
theorem uZ (f:Fl) (nm:Str):cIx f nm<0∨∃k,∃h:k<f.cps.length,cIx f nm=(k:Nat)∧sEq f.cps[k].name nm=true:=by
 rcases vp (fun x:Cp=>sEq x.name nm) f.cps 0 with h|⟨k,hk,h1,h2⟩
 ·exact .inl h
 ·exact .inr ⟨k,hk,by rw[←Nat.zero_add k];exact h1,h2⟩
def oth (c x:Cp):Bool:=!sEq x.name c.name&&!sEq x.at_ (mkS [])
def CC (l:List Lk) (b:Bt):Nat→Int
 |0=>0
 |i+1=>match l[i]? with
  |some x=>bif H9 x.sel b then w64 (CC l b i+x.w) else CC l b i
  |none=>CC l b i
def Cn (f:Fl) (c:Cp) (b:Bt):Nat→Nat
 |0=>0
 |i+1=>match f.cps[i]? with
  |some x=>bif oth c x&&(sEq x.svc c.svc&&sEq (BI f x.at_) b.zone) then Cn f c b i+1 else Cn f c b i
  |none=>Cn f c b i
def zN (f:Fl) (c:Cp) (b:Bt):Nat→Nat
 |0=>0
 |i+1=>match f.cps[i]? with
  |some x=>bif oth c x&&(sEq x.svc c.svc&&sEq x.at_ b.name) then zN f c b i+1 else zN f c b i
  |none=>zN f c b i
def CP (f:Fl) (c:Cp) (b:Bt):Nat→Int
 |0=>w64 (b.room-c.room)
 |i+1=>match f.cps[i]? with
  |some x=>bif oth c x&&sEq x.at_ b.name then w64 (CP f c b i-x.room) else CP f c b i
  |none=>CP f c b i
section
variable {f:Fl} (hz:f.Sz 1048576) {c:Cp} (hc:c.Sz 1048576) {b:Bt} (hb:b.Sz 1048576) (hbo:fQ b=true)
include hz hc hb hbo
end
end Go.Ev
namespace Go.Ev
structure VB (f:Fl):Prop where
 n60:f.cps.length≤60
 cb:∀x,x∈f.cps→(0≤x.room∧x.room≤1000)∧(0≤x.hold∧x.hold≤1000)∧(0≤x.apart∧x.apart≤2)∧(0≤x.rank∧x.rank≤100)∧(0≤x.born∧x.born≤1000000)
 bb:∀b,b∈f.bts→fQ b=true
section
variable {f:Fl} (hz:f.Sz 1048576) {c:Cp} (hc:c.Sz 1048576) {b:Bt} (hb:b.Sz 1048576) (hbo:fQ b=true)
include hz hc hb hbo
end
section
variable {f:Fl} (hz:f.Sz 1048576) (cn bn_:Str)
include hz
end
end Go.Ev
namespace Go.Ev
def Iv {α:Type} (p:α→Bool) (l:List α) (i:Nat):Nat:=(l.take i).countP p
def Ik {α:Type} (p:α→Bool) (g:α→Int) (l:List α) (i:Nat):Int:=((l.take i).map fun x=>bif p x then g x else 0).sum
def Io (f:Fl) (c:Cp) (b:Bt) (x:Cp):Bool:=oth c x&&(sEq x.svc c.svc&&(sEq x.at_ b.name&&(x.apart !=0||c.apart !=0)||sEq (BI f x.at_) b.zone&&(x.apart==2||c.apart==2)))
def HZ (f:Fl) (c:Cp) (b:Bt) (x:Cp):Bool:=oth c x&&(sEq x.svc c.near&&sEq (BI f x.at_) b.zone)
def IB (c:Cp) (s:Str) (x:Cp):Bool:=oth c x&&sEq x.svc s
def Iz (f:Fl) (c:Cp) (b:Bt):Bool:=!sEq c.near (mkS [])&&(!f.cps.any (HZ f c b)&&(f.cps.any (IB c c.near)||!sEq c.near c.svc))
def onP (c:Cp) (b:Bt) (x:Cp):Bool:=oth c x&&sEq x.at_ b.name
def xj (f:Fl) (c:Cp) (b:Bt) (o:Bool):Nat:=
 bif b.shut&&!o then 1 else bif !sEq c.fixed (mkS [])&&!sEq c.fixed b.name then 2 else bif !H9 c.sel b then 3 else bif f.cps.any (Io f c b) then 4 else bif Iz f c b then 5 else
 bif decide (10≤Iv (onP c b) f.cps f.cps.length) then 6 else bif decide (b.room<Ik (onP c b) Cp.room f.cps f.cps.length+c.room) then 7 else bif decide (b.hold<Ik (onP c b) Cp.hold f.cps f.cps.length+c.hold) then 8 else 0
end Go.Ev
namespace Go.Ev
section
variable {f:Fl} (hz:f.Sz 1048576) {c:Cp} (hc:c.Sz 1048576) {b:Bt} (hb:b.Sz 1048576) (hbo:fQ b=true)
include hz hc hb hbo
end
end Go.Ev
namespace Go.Ev
section
variable {f:Fl} (hz:f.Sz 1048576) {c:Cp} (hc:c.Sz 1048576) {b:Bt} (hb:b.Sz 1048576) (hbo:fQ b=true)
include hz hc hb hbo
end
end Go.Ev
namespace Go.Ev
section
variable {f:Fl} (hz:f.Sz 1048576) (cn bn_:Str)
include hz
end
def better (p:Bool) (a b:Int×Int×Int×Int):Bool:=bif a.1 !=b.1 then decide (a.1>b.1) else bif a.2.1 !=b.2.1 then decide (a.2.1<b.2.1) else bif a.2.2.1 !=b.2.2.1 then decide (a.2.2.1<b.2.2.1) else bif p then decide (a.2.2.2<b.2.2.2) else decide (a.2.2.2>b.2.2.2)
def Af (f:Fl) (c:Cp) (b:Bt):Int×Int×Int×Int:=(CC c.likes b c.likes.length,(Cn f c b f.cps.length:Nat),(zN f c b f.cps.length:Nat),CP f c b f.cps.length)
def ID (f:Fl) (c:Cp) (i:Int) (b:Bt):Bool:=decide (i<0)||match f.bts[i.toNat]? with|some y=>better f.pack (Af f c b) (Af f c y)|none=>true
def wX (f:Fl) (c:Cp):Nat→Int
 |0=>-1
 |i+1=>match f.bts[i]? with
  |some b=>bif xj f c b false==0&&ID f c (wX f c i) b then i else wX f c i
  |none=>wX f c i
def CE (f:Fl) (c:Cp):Str:=match f.bts[(wX f c f.bts.length).toNat]? with
 |some b=>if wX f c f.bts.length<0 then mkS [] else b.name
 |none=>mkS []
section
variable {f:Fl} (hz:f.Sz 1048576) {c:Cp} (hc:c.Sz 1048576) (hv:VB f) (hr:0≤c.room∧c.room≤1000) (hh:0≤c.hold∧c.hold≤1000) (ha:0≤c.apart∧c.apart≤2)
include hz hc hv hr hh ha
end
end Go.Ev
namespace Go.Ev
section
variable {f:Fl} (hz:f.Sz 1048576) {c:Cp} (hc:c.Sz 1048576) (hv:VB f) (hr:0≤c.room∧c.room≤1000) (hh:0≤c.hold∧c.hold≤1000) (ha:0≤c.apart∧c.apart≤2)
include hz hc hv hr hh ha
end
section
variable {f:Fl} (hz:f.Sz 1048576) (cn:Str)
include hz
end
end Go.Ev
namespace Go.Ev
theorem sb {α:Type} (p:α→Bool):∀(l:List α) (n:Nat),dX p l n<0→l.any p=false
 |[],_,_=>rfl
 |x::r,n,h=>by
  simp only[dX] at h
  cases hp:p x with
  |true=>rw[hp,jR] at h;omega
  |false=>rw[hp,jS] at h;simp[hp,sb p r (n+1) h]
def Ha (f:Fl) (c:Cp):Bool:=!sEq c.at_ (mkS [])&&match f.bts[(bIx f c.at_).toNat]? with|some b=>!(xj f c b true==0)|none=>false
def G5 (f:Fl) (i:Nat):List Str:=((f.cps.take i).filter (Ha f)).map Cp.name
def Fa (f:Fl):List Str:=bif dz f then G5 f f.cps.length else []
section
variable {f:Fl} (hz:f.Sz 1048576)
include hz
end
end Go.Ev
namespace Go.Ev
def aO {α:Type} (mk:α→Int→α×Int):List α→Int→List α×Int
 |[],k=>([],k)
 |x::r,k=>((mk x k).1::(aO mk r (mk x k).2).1,(aO mk r (mk x k).2).2)
theorem gh {α:Type} (mk:α→Int→α×Int):∀(l:List α) (k:Int),(aO mk l k).1.length=l.length
 |[],_=>rfl
 |x::r,k=>by simp[aO,gh mk r]
theorem oI {α:Type} (mk:α→Int→α×Int) (D:Nat):∀(l:List α) (k:Int),(∀x,x∈l→∀k,k≤(mk x k).2∧(mk x k).2≤k+D)→k≤(aO mk l k).2∧(aO mk l k).2≤k+(l.length*D:Nat)
 |[],k,_=>by simp[aO]
 |x::r,k,h=>by
  have h1:=h x (by simp) k
  have h2:=oI mk D r (mk x k).2 fun y hy=>h y (by simp[hy])
  simp only[aO,List.length_cons,Nat.succ_mul]
  omega
theorem mi {α:Type} {e:α→List C} {P:α→Prop} {K:Int} (mk:α→Int→α×Int) (D:Nat) {body:List C→R} {n:Nat} (hn:n≤1048576) (hD:D≤4294967296)
  (hb:∀(i:Nat) (x:α) (c:List (List C)) (k:Int),P x→i<n→c.length=n→c.getD i []=e x→0≤k→k≤K→body [.i k,.i i,.l c]=some (.again [.i (mk x k).2,.i (i+1:Nat),.l (c.set i (e (mk x k).1))]))
  (he:∀(k:Int) (c:List (List C)),c.length=n→body [.i k,.i n,.l c]=some (.brk 0 [.i k,.l c])):
  ∀(r:List α) (p:List (List C)) (k:Int),p.length+r.length=n→(∀x,x∈r→P x)→(∀x,x∈r→∀k,k≤(mk x k).2∧(mk x k).2≤k+D)→0≤k→k+(r.length*D:Nat)≤K→
   lim body [.i k,.i p.length,.l (p++r.map e)]=some (.brk 0 [.i (aO mk r k).2,.l (p++(aO mk r k).1.map e)])
 |[],p,k,h,_,_,_,_=>by
  simp only[List.length_nil,Nat.add_zero] at h
  have:=he k (p++([]:List α).map e) (by simp[h])
  rw[h]
  exact bB this
 |x::r,p,k,h,hp,hm,k0,k1=>by
  simp only[List.length_cons,Nat.succ_mul] at h k1
  have hx:=hm x (by simp) k
  have hc:(p++(x::r).map e).length=n:=by simp;omega
  have hg:(p++(x::r).map e).getD p.length []=e x:=by
   rw[List.getD_eq_getElem?_getD,List.getElem?_append_right (Nat.le_refl _),Nat.sub_self];rfl
  have h1:=hb p.length x _ k (hp x (by simp)) (by omega) hc hg k0 (by omega)
  rw[bc h1]
  have hs:(p++(x::r).map e).set p.length (e (mk x k).1)=(p++[e (mk x k).1])++r.map e:=by
   rw[List.set_append_right _ _ (Nat.le_refl _),Nat.sub_self,List.map_cons,List.set_cons_zero,List.append_assoc];rfl
  have ih:=mi mk D hn hD hb he r (p++[e (mk x k).1]) (mk x k).2 (by simp;omega) (fun y hy=>hp y (by simp[hy])) (fun y hy=>hm y (by simp[hy])) (by omega) (by omega)
  rw[List.length_append,List.length_singleton] at ih
  rw[hs,ih]
  simp[aO]
end Go.Ev
namespace Go.Ev
theorem Gu (x:C):(zC [[x]]).size=1:=rfl
theorem CM:∀(d:Nat) (k:Int) (o:Str),0≤k→k<10^d→k≤9000000000000000000→o.size+d≤1000→∃s:Str,lim (apn 2 aI.d1) [.i k,.s o]=some (.brk 0 [.s s])∧s.size≤o.size+d
 |0,k,o,h0,h1,_,h2=>by
  have:k=0:=by simp at h1;omega
  subst this
  exact ⟨o,bB (by simp[aI.d1]),by omega⟩
 |d+1,k,o,h0,h1,h3,h2=>by
  by_cases hk:k>0
  ·have e1:w64 (k.tdiv 10)=k/10:=by
    have:k.tdiv 10=k/10:=Int.tdiv_eq_ediv_of_nonneg h0
    rw[this,ed (by omega) (by omega)]
   have hs:((zC [[C.i (IntKind.wrap .u8 (w64 (48+k.tmod 10)))]])++o).size=1+o.size:=by rw[ByteArray.size_append,Gu]
   obtain ⟨s,h4,h5⟩:=CM d (k/10) ((zC [[C.i (IntKind.wrap .u8 (w64 (48+k.tmod 10)))]])++o) (by omega) (by rw[Int.pow_succ] at h1;omega) (by omega) (by omega)
   refine ⟨s,?_,by omega⟩
   rw[←h4]
   refine bc ?_
   have:(zC [[C.i (IntKind.wrap .u8 (w64 (48+k.tmod 10)))]]).size+o.size≤4294967296:=by rw[Gu];omega
   simp only[aI.d1,apL,jC,jD,C.I_i,C.S_s,hk,decide_true,jR,e1,this]
  ·have:k=0:=by omega
   subst this
   exact ⟨o,bB (by simp[aI.d1]),by omega⟩
noncomputable def mtx (k:Int):Str:=match aI [.i k] with|some [.s s]=>s|_=>mkS []
theorem nE {k:Int} (h0:0≤k) (h1:k≤9000000000000000000):aI [.i k]=some [.s (mtx k)]:=by
 have key:∃s,aI [.i k]=some [.s s]:=by
  by_cases hk:k≤0
  ·exact ⟨bs #[109,48],by simp only[aI,aI.d3,apL,jC,C.I_i,hk,decide_true,jR,jV]⟩
  ·obtain ⟨s,h2,h3⟩:=CM 19 k (bs #[]) h0 (by omega) h1 (by decide)
   have h3:s.size≤19:=by have e:(bs #[]).size=0:=rfl;omega
   have:(bs #[109]).size+s.size≤4294967296:=by have:(bs #[109]).size=1:=rfl;omega
   exact ⟨bs #[109]++s,by simp only[aI,aI.d3,apL,jC,C.I_i,hk,decide_false,jS,h2,dB,aI.d2,C.S_s,this,decide_true,jR,jV]⟩
 obtain ⟨s,h⟩:=key
 rw[h]
 simp[mtx,h]
end Go.Ev
namespace Go.Ev
noncomputable def mkStr (_:Str) (k:Int):Str×Int:=(mtx k,k+1)
theorem nT (l:List Str) (k:Int) (hl:l.length≤1048576) (h0:0≤k) (h1:k≤8000000000000000000):
  cg [.i k,.l (l.map sE)]=some [.i (aO mkStr l k).2,.l ((aO mkStr l k).1.map sE)]:=by
 have h:=mi (K:=8500000000000000000) (P:=fun _=>True) (e:=sE) mkStr 1 (body:=apn 3 cg.d1) (n:=l.length) hl (by omega)
  (fun i x c k _ hi hc hg k0 k1=>by
   have e3:((i:Int)<(c.length:Int)):=by omega
   have e4:w64 (k+1)=k+1:=ed (by omega) (by omega)
   simp only[apL,jC,jD,cg.d1,C.I_i,C.L_l,e3,decide_true,jR,nE k0 (show k≤9000000000000000000 by omega),aa,jI,jX,jY,hg,e4,w1 hi (show l.length<big by simp only[big];omega)]
   simp[sE,ar,mkStr])
  (fun k c hc=>by simp[cg.d1,hc]) l [] k (by simp) (fun _ _=>trivial) (fun x _ k=>by simp only[mkStr];omega) h0 (by simp;omega)
 simp only[List.length_nil,jB,Int.natCast_zero] at h
 simp only[cg,cg.d3,apL,jC,jD,C.L_l]
 rw[h]
 simp[cg.d2]
theorem mh {α:Type} {e:α→List C} {P:α→Prop} (mk:α→Int→α×Int) (D:Nat) {body:List C→R} {n:Nat} {L:List (List C)} {K:Int} (hn:n≤1048576) (hD:D≤4294967296)
  (hb:∀(i:Nat) (x:α) (k:Int),P x→i<n→L.getD i []=e (mk x k).1→0≤k→k≤K→body [.l L,.i k,.i i]=some (.again [.l L,.i (mk x k).2,.i (i+1:Nat)]))
  (he:∀(k:Int),body [.l L,.i k,.i n]=some (.brk 0 [.i k])):
  ∀(r:List α) (p:List (List C)) (k:Int),L=p++(aO mk r k).1.map e→p.length+r.length=n→(∀x,x∈r→P x)→(∀x,x∈r→∀k,k≤(mk x k).2∧(mk x k).2≤k+D)→0≤k→k+(r.length*D:Nat)≤K→
   lim body [.l L,.i k,.i p.length]=some (.brk 0 [.i (aO mk r k).2])
 |[],p,k,_,h,_,_,_,_=>by
  simp only[List.length_nil,Nat.add_zero] at h
  rw[h]
  exact bB (he k)
 |x::r,p,k,hL,h,hp,hm,k0,k1=>by
  simp only[List.length_cons,Nat.succ_mul] at h k1
  have hx:=hm x (by simp) k
  have hg:L.getD p.length []=e (mk x k).1:=by
   rw[hL,List.getD_eq_getElem?_getD,List.getElem?_append_right (Nat.le_refl _),Nat.sub_self];rfl
  rw[bc (hb p.length x k (hp x (by simp)) (by omega) hg k0 (by omega))]
  have ih:=mh mk D hn hD hb he r (p++[e (mk x k).1]) (mk x k).2 (by rw[hL];simp[aO]) (by simp;omega) (fun y hy=>hp y (by simp[hy])) (fun y hy=>hm y (by simp[hy])) (by omega) (by omega)
  rw[List.length_append,List.length_singleton] at ih
  rw[ih]
  simp[aO]
theorem uO (l:List Str) (k:Int) (hl:l.length≤1048576) (h0:0≤k) (h1:k≤8000000000000000000):
  cu [.l ((aO mkStr l k).1.map sE),.i k]=some [.i (aO mkStr l k).2]:=by
 have hlen:((aO mkStr l k).1.map sE).length=l.length:=by rw[jW,gh]
 have h:=mh (K:=8500000000000000000) (P:=fun _=>True) (e:=sE) mkStr 1 (body:=apn 3 cu.d1) (n:=l.length) (L:=(aO mkStr l k).1.map sE) hl (by omega)
  (fun i x k _ hi hg k0 k1=>by
   have e3:((i:Int)<(l.length:Int)):=by omega
   have e4:w64 (k+1)=k+1:=ed (by omega) (by omega)
   simp only[apL,jC,jD,cu.d1,C.I_i,C.L_l,hlen,e3,decide_true,jR,nE k0 (show k≤9000000000000000000 by omega),aa,jI,jX,jY,hg,e4,w1 hi (show l.length<big by simp only[big];omega)]
   simp[sE,mkStr])
  (fun k=>by simp[cu.d1,gh]) l [] k rfl (by simp) (fun _ _=>trivial) (fun x _ k=>by simp only[mkStr];omega) h0 (by simp;omega)
 simp only[List.length_nil,Int.natCast_zero] at h
 simp only[cu,cu.d3,apL,jC,jD,C.L_l]
 rw[h]
 simp[cu.d2]
end Go.Ev
namespace Go.Ev
theorem wk {α:Type} {c:List (List α)} {i:Nat} (h:i<c.length) (r:List α):(c.set i r).getD i []=r:=by
 rw[List.getD_eq_getElem?_getD,List.getElem?_set_self h];rfl
noncomputable def lK (_:Sv) (k:Int):Sv×Int:=(⟨mtx k,k+1⟩,k+2)
noncomputable def lQ (_:Lk) (k:Int):Lk×Int:=(⟨mtx k,k+1⟩,k+2)
theorem po (l:List Sv) (k:Int) (hl:l.length≤1048576) (h0:0≤k) (h1:k≤8000000000000000000):
  aW [.i k,.l (l.map Sv.e)]=some [.i (aO lK l k).2,.l ((aO lK l k).1.map Sv.e)]:=by
 have h:=mi (K:=8500000000000000000) (P:=fun _=>True) (e:=Sv.e) lK 2 (body:=apn 3 aW.d1) (n:=l.length) hl (by omega)
  (fun i x c k _ hi hc hg k0 k1=>by
   have hic:i<c.length:=by omega
   have e3:((i:Int)<(c.length:Int)):=by omega
   have e4:w64 (k+1)=k+1:=ed (by omega) (by omega)
   have e5:w64 (k+1+1)=k+2:=by rw[ed (by omega) (by omega)];omega
   simp only[apL,jC,jD,aW.d1,C.I_i,C.L_l,e3,decide_true,jR,nE k0 (show k≤9000000000000000000 by omega),aa,jI,jX,jY,hg,e4,e5,w1 hi (show l.length<big by simp only[big];omega),List.length_set,wk hic,List.set_set]
   simp[Sv.e,ar,lK])
  (fun k c hc=>by simp[aW.d1,hc]) l [] k (by simp) (fun _ _=>trivial) (fun x _ k=>by simp only[lK];omega) h0 (by simp;omega)
 simp only[List.length_nil,jB,Int.natCast_zero] at h
 simp only[aW,aW.d3,apL,jC,jD,C.L_l]
 rw[h]
 simp[aW.d2]
theorem lN (l:List Lk) (k:Int) (hl:l.length≤1048576) (h0:0≤k) (h1:k≤8000000000000000000):
  bu [.i k,.l (l.map Lk.e)]=some [.i (aO lQ l k).2,.l ((aO lQ l k).1.map Lk.e)]:=by
 have h:=mi (K:=8500000000000000000) (P:=fun _=>True) (e:=Lk.e) lQ 2 (body:=apn 3 bu.d1) (n:=l.length) hl (by omega)
  (fun i x c k _ hi hc hg k0 k1=>by
   have hic:i<c.length:=by omega
   have e3:((i:Int)<(c.length:Int)):=by omega
   have e4:w64 (k+1)=k+1:=ed (by omega) (by omega)
   have e5:w64 (k+1+1)=k+2:=by rw[ed (by omega) (by omega)];omega
   simp only[apL,jC,jD,bu.d1,C.I_i,C.L_l,e3,decide_true,jR,nE k0 (show k≤9000000000000000000 by omega),aa,jI,jX,jY,hg,e4,e5,w1 hi (show l.length<big by simp only[big];omega),List.length_set,wk hic,List.set_set]
   simp[Lk.e,ar,lQ])
  (fun k c hc=>by simp[bu.d1,hc]) l [] k (by simp) (fun _ _=>trivial) (fun x _ k=>by simp only[lQ];omega) h0 (by simp;omega)
 simp only[List.length_nil,jB,Int.natCast_zero] at h
 simp only[bu,bu.d3,apL,jC,jD,C.L_l]
 rw[h]
 simp[bu.d2]
end Go.Ev
namespace Go.Ev
theorem qu {k:Int} (h0:0≤k) (h1:k≤9000000000000000000):w64 (k+1)=k+1:=ed (by omega) (by omega)
theorem C4 (a:C) (l:List C) (n:Nat) (m:List C):ar (a::l) (n+1) m=a::ar l n m:=by
 have e:n+1+m.length=n+m.length+1:=by omega
 simp only[ar,List.take_succ_cons,jA,e,List.drop_succ_cons]
theorem CI (a x:C) (l:List C):ar (a::l) 0 [x]=x::l:=rfl
noncomputable def iU (b:Bt) (k:Int):Bt×Int:=
 (⟨mtx k,mtx (k+1),(aO mkStr b.marks (k+1+1)).1,(aO mkStr b.marks (k+1+1)).2,(aO mkStr b.marks (k+1+1)).2+1,((aO mkStr b.marks (k+1+1)).2+1+1).tmod 3==0⟩,(aO mkStr b.marks (k+1+1)).2+1+1+1)
theorem nV (l:List Str) (k:Int):k≤(aO mkStr l k).2∧(aO mkStr l k).2≤k+(l.length:Nat):=by
 have:=oI mkStr 1 l k (fun x _ k=>by simp only[mkStr];omega)
 omega
theorem qV (l:List Lk) (k:Int):k≤(aO lQ l k).2∧(aO lQ l k).2≤k+(l.length*2:Nat):=
 oI lQ 2 l k (fun x _ k=>by simp only[lQ];omega)
theorem pR (l:List Bt) (k:Int) (hl:l.length≤1048576) (hm:∀b,b∈l→b.marks.length≤1048576) (h0:0≤k) (h1:k≤7000000000000000000):
  aJ [.i k,.l (l.map Bt.e)]=some [.i (aO iU l k).2,.l ((aO iU l k).1.map Bt.e)]:=by
 have h:=mi (K:=7900000000000000000) (P:=fun b:Bt=>b.marks.length≤1048576) (e:=Bt.e) iU 1048581 (body:=apn 3 aJ.d3) (n:=l.length) hl (by omega)
  (fun i x c k hx hi hc hg k0 k1=>by
   have hic:i<c.length:=by omega
   have e3:((i:Int)<(c.length:Int)):=by omega
   have hk:=nV x.marks (k+1+1)
   have hs:=nT x.marks (k+1+1) hx (by omega) (by omega)
   simp (disch:=omega) only[apL,jC,jD,aJ.d3,aJ.d2,aJ.d1,C.I_i,C.L_l,e3,decide_true,jR,nE,aa,call2,jI,jJ,jX,jY,hg,qu,List.length_set,wk,List.set_set,Bt.e,C4,CI,hs]
   simp (disch:=omega) [Bt.e,ar,iU,hs,w1,qu])
  (fun k c hc=>by simp[aJ.d3,hc]) l [] k (by simp) hm (fun x hx k=>by have:=nV x.marks (k+1+1);have:=hm x hx;simp only[iU];omega) h0 (by simp;omega)
 simp only[List.length_nil,jB,Int.natCast_zero] at h
 simp only[aJ,aJ.d5,apL,jC,jD,C.L_l]
 rw[h]
 simp[aJ.d4]
noncomputable def pW (c:Cp) (k:Int):Cp×Int:=
 (⟨mtx k,mtx (k+1),k+1+1,k+1+1+1,k+1+1+1+1,k+1+1+1+1+1,mtx (k+1+1+1+1+1+1),(aO lQ c.likes (k+1+1+1+1+1+1+1)).1,(aO lQ c.likes (k+1+1+1+1+1+1+1)).2,mtx ((aO lQ c.likes (k+1+1+1+1+1+1+1)).2+1),mtx ((aO lQ c.likes (k+1+1+1+1+1+1+1)).2+1+1),mtx ((aO lQ c.likes (k+1+1+1+1+1+1+1)).2+1+1+1)⟩,(aO lQ c.likes (k+1+1+1+1+1+1+1)).2+1+1+1+1)
theorem rA (l:List Cp) (k:Int) (hl:l.length≤1048576) (hm:∀c,c∈l→c.likes.length≤1048576) (h0:0≤k) (h1:k≤7000000000000000000):
  aD [.i k,.l (l.map Cp.e)]=some [.i (aO pW l k).2,.l ((aO pW l k).1.map Cp.e)]:=by
 have h:=mi (K:=7900000000000000000) (P:=fun c:Cp=>c.likes.length≤1048576) (e:=Cp.e) pW 2097170 (body:=apn 3 aD.d5) (n:=l.length) hl (by omega)
  (fun i x c k hx hi hc hg k0 k1=>by
   have hic:i<c.length:=by omega
   have e3:((i:Int)<(c.length:Int)):=by omega
   have hk:=qV x.likes (k+1+1+1+1+1+1+1)
   have hs:=lN x.likes (k+1+1+1+1+1+1+1) hx (by omega) (by omega)
   simp (disch:=omega) only[apL,jC,jD,aD.d5,aD.d4,aD.d3,aD.d2,aD.d1,C.I_i,C.L_l,e3,decide_true,jR,nE,aa,call2,jI,jJ,jX,jY,hg,qu,List.length_set,wk,List.set_set,Cp.e,C4,CI,hs]
   simp (disch:=omega) [pW,w1,qu])
  (fun k c hc=>by simp[aD.d5,hc]) l [] k (by simp) hm (fun x hx k=>by have:=qV x.likes (k+1+1+1+1+1+1+1);have:=hm x hx;simp only[pW];omega) h0 (by simp;omega)
 simp only[List.length_nil,jB,Int.natCast_zero] at h
 simp only[aD,aD.d7,apL,jC,jD,C.L_l]
 rw[h]
 simp[aD.d6]
noncomputable def oE (f:Fl) (k:Int):Fl×Int:=
 (⟨f.pack,(aO iU f.bts k).1,(aO lK f.svs (aO iU f.bts k).2).1,(aO pW f.cps (aO lK f.svs (aO iU f.bts k).2).2).1⟩,(aO pW f.cps (aO lK f.svs (aO iU f.bts k).2).2).2)
theorem wz {f:Fl} (hz:f.Sz 1048576) {k:Int} (h0:0≤k):(k≤(aO iU f.bts k).2∧(aO iU f.bts k).2≤k+1099528000000)∧((aO iU f.bts k).2≤(aO lK f.svs (aO iU f.bts k).2).2∧(aO lK f.svs (aO iU f.bts k).2).2≤k+1099628000000)∧((aO lK f.svs (aO iU f.bts k).2).2≤(oE f k).2∧(oE f k).2≤k+9999999999999):=by
 have a:=oI iU 1048581 f.bts k (fun x hx k=>by have:=nV x.marks (k+1+1);have:=(hz.1.2 x hx).2.2.1;simp only[iU];omega)
 have b:=oI lK 2 f.svs (aO iU f.bts k).2 (fun x hx k=>by simp only[lK];omega)
 have c:=oI pW 2097170 f.cps (aO lK f.svs (aO iU f.bts k).2).2 (fun x hx k=>by have:=qV x.likes (k+1+1+1+1+1+1+1);have:=(hz.2.2.2 x hx).2.2.2.2.2.2.1;simp only[pW];omega)
 have:=hz.1.1;have:=hz.2.1.1;have:=hz.2.2.1
 have e1:f.bts.length*1048581≤1048576*1048581:=Nat.mul_le_mul_right _ hz.1.1
 have e3:f.cps.length*2097170≤1048576*2097170:=Nat.mul_le_mul_right _ hz.2.2.1
 simp only[oE]
 omega
theorem lL {f:Fl} (hz:f.Sz 1048576) {k:Int} (h0:0≤k) (h1:k≤1000000000000000000):
  dS [.b f.pack,.i k,.l (f.bts.map Bt.e),.l (f.svs.map Sv.e),.l (f.cps.map Cp.e)]=some ([.i (oE f k).2,.l ((oE f k).1.bts.map Bt.e),.l ((oE f k).1.svs.map Sv.e),.l ((oE f k).1.cps.map Cp.e)]):=by
 obtain ⟨u1,u2,u3⟩:=wz hz h0
 have a:=pR f.bts k hz.1.1 (fun x hx=>(hz.1.2 x hx).2.2.1) h0 (by omega)
 have b:=po f.svs (aO iU f.bts k).2 hz.2.1.1 (by omega) (by omega)
 have c:=rA f.cps (aO lK f.svs (aO iU f.bts k).2).2 hz.2.2.1 (fun x hx=>(hz.2.2.2 x hx).2.2.2.2.2.2.1) (by omega) (by omega)
 simp only[dS,dS.d1,apL,jC,jD,C.L_l,a,b,c,call2,jI,jV,oE]
end Go.Ev
namespace Go.Ev
end Go.Ev
namespace Go.Ev
theorem Gf (k:Int):k+1+1=k+2:=by omega
theorem ltL {i n:Nat} (h:i<n):decide ((i:Int)<(n:Int))=true:=by simp;omega
theorem oP (l:List Sv) (k:Int) (hl:l.length≤1048576) (h0:0≤k) (h1:k≤8000000000000000000):
  aV [.l ((aO lK l k).1.map Sv.e),.i k]=some [.i (aO lK l k).2]:=by
 have hlen:((aO lK l k).1.map Sv.e).length=l.length:=by rw[jW,gh]
 have h:=mh (K:=8500000000000000000) (P:=fun _=>True) (e:=Sv.e) lK 2 (body:=apn 3 aV.d1) (n:=l.length) (L:=(aO lK l k).1.map Sv.e) hl (by omega)
  (fun i x k _ hi hg k0 k1=>by
   simp (disch:=omega) only[apL,jC,jD,aV.d1,C.I_i,C.L_l,hlen,ltL hi,jR,jS,nE,aa,jI,jX,decide_true,jY,hg,qu,Sv.e,lK,C.S_s,beq_self_eq_true,bne_self_eq_false,jZ,Int.natCast_add,Int.natCast_one]
   rw[Gf])
  (fun k=>by simp[aV.d1,gh]) l [] k rfl (by simp) (fun _ _=>trivial) (fun x _ k=>by simp only[lK];omega) h0 (by simp;omega)
 simp only[List.length_nil,Int.natCast_zero] at h
 simp only[aV,aV.d3,apL,jC,jD,C.L_l]
 rw[h]
 simp[aV.d2]
theorem rG (l:List Lk) (k:Int) (hl:l.length≤1048576) (h0:0≤k) (h1:k≤8000000000000000000):
  bH [.l ((aO lQ l k).1.map Lk.e),.i k]=some [.i (aO lQ l k).2]:=by
 have hlen:((aO lQ l k).1.map Lk.e).length=l.length:=by rw[jW,gh]
 have h:=mh (K:=8500000000000000000) (P:=fun _=>True) (e:=Lk.e) lQ 2 (body:=apn 3 bH.d1) (n:=l.length) (L:=(aO lQ l k).1.map Lk.e) hl (by omega)
  (fun i x k _ hi hg k0 k1=>by
   simp (disch:=omega) only[apL,jC,jD,bH.d1,C.I_i,C.L_l,hlen,ltL hi,jR,jS,nE,aa,jI,jX,decide_true,jY,hg,qu,Lk.e,lQ,C.S_s,beq_self_eq_true,bne_self_eq_false,jZ,Int.natCast_add,Int.natCast_one]
   rw[Gf])
  (fun k=>by simp[bH.d1,gh]) l [] k rfl (by simp) (fun _ _=>trivial) (fun x _ k=>by simp only[lQ];omega) h0 (by simp;omega)
 simp only[List.length_nil,Int.natCast_zero] at h
 simp only[bH,bH.d3,apL,jC,jD,C.L_l]
 rw[h]
 simp[bH.d2]
theorem qt (l:List Bt) (k:Int) (hl:l.length≤1048576) (hm:∀b,b∈l→b.marks.length≤1048576) (h0:0≤k) (h1:k≤7000000000000000000):
  bj [.l ((aO iU l k).1.map Bt.e),.i k]=some [.i (aO iU l k).2]:=by
 have hlen:((aO iU l k).1.map Bt.e).length=l.length:=by rw[jW,gh]
 have h:=mh (K:=7900000000000000000) (P:=fun b:Bt=>b.marks.length≤1048576) (e:=Bt.e) iU 1048581 (body:=apn 3 bj.d1) (n:=l.length) (L:=(aO iU l k).1.map Bt.e) hl (by omega)
  (fun i x k hx hi hg k0 k1=>by
   have hk:=nV x.marks (k+1+1)
   have hs:=uO x.marks (k+1+1) hx (by omega) (by omega)
   have hn:¬(aO mkStr x.marks (k+1+1)).2<0:=by omega
   simp (disch:=omega) only[apL,jC,jD,bj.d1,C.I_i,C.L_l,hlen,ltL hi,jR,jS,nE,aa,jI,jX,decide_true,decide_false,jY,hg,qu,Bt.e,iU,C.S_s,C.B_b,beq_self_eq_true,bne_self_eq_false,jZ,Int.natCast_add,Int.natCast_one,hs,hn])
  (fun k=>by simp[bj.d1,gh]) l [] k rfl (by simp) hm (fun x hx k=>by have:=nV x.marks (k+1+1);have:=hm x hx;simp only[iU];omega) h0 (by simp;omega)
 simp only[List.length_nil,Int.natCast_zero] at h
 simp only[bj,bj.d3,apL,jC,jD,C.L_l]
 rw[h]
 simp[bj.d2]
theorem rF (l:List Cp) (k:Int) (hl:l.length≤1048576) (hm:∀c,c∈l→c.likes.length≤1048576) (h0:0≤k) (h1:k≤7000000000000000000):
  bF [.l ((aO pW l k).1.map Cp.e),.i k]=some [.i (aO pW l k).2]:=by
 have hlen:((aO pW l k).1.map Cp.e).length=l.length:=by rw[jW,gh]
 have h:=mh (K:=7900000000000000000) (P:=fun c:Cp=>c.likes.length≤1048576) (e:=Cp.e) pW 2097170 (body:=apn 3 bF.d1) (n:=l.length) (L:=(aO pW l k).1.map Cp.e) hl (by omega)
  (fun i x k hx hi hg k0 k1=>by
   have hk:=qV x.likes (k+1+1+1+1+1+1+1)
   have hs:=rG x.likes (k+1+1+1+1+1+1+1) hx (by omega) (by omega)
   have hn:¬(aO lQ x.likes (k+1+1+1+1+1+1+1)).2<0:=by omega
   simp (disch:=omega) only[apL,jC,jD,bF.d1,C.I_i,C.L_l,hlen,ltL hi,jR,jS,nE,aa,jI,jX,decide_true,decide_false,jY,hg,qu,Cp.e,pW,C.S_s,C.B_b,beq_self_eq_true,bne_self_eq_false,jZ,Int.natCast_add,Int.natCast_one,hs,hn])
  (fun k=>by simp[bF.d1,gh]) l [] k rfl (by simp) hm (fun x hx k=>by have:=qV x.likes (k+1+1+1+1+1+1+1);have:=hm x hx;simp only[pW];omega) h0 (by simp;omega)
 simp only[List.length_nil,Int.natCast_zero] at h
 simp only[bF,bF.d3,apL,jC,jD,C.L_l]
 rw[h]
 simp[bF.d2]
theorem rC {f:Fl} (hz:f.Sz 1048576) {k:Int} (h0:0≤k) (h1:k≤1000000000000000000):
  dV [.b f.pack,.l ((oE f k).1.bts.map Bt.e),.l ((oE f k).1.svs.map Sv.e),.l ((oE f k).1.cps.map Cp.e),.i k]=some [.i (oE f k).2]:=by
 obtain ⟨u1,u2,u3⟩:=wz hz h0
 have a:=qt f.bts k hz.1.1 (fun x hx=>(hz.1.2 x hx).2.2.1) h0 (by omega)
 have b:=oP f.svs (aO iU f.bts k).2 hz.2.1.1 (by omega) (by omega)
 have c:=rF f.cps (aO lK f.svs (aO iU f.bts k).2).2 hz.2.2.1 (fun x hx=>(hz.2.2.2 x hx).2.2.2.2.2.2.1) (by omega) (by omega)
 have n1:¬(aO iU f.bts k).2<0:=by omega
 have n2:¬(aO lK f.svs (aO iU f.bts k).2).2<0:=by omega
 simp only[oE] at u3
 have n3:¬(aO pW f.cps (aO lK f.svs (aO iU f.bts k).2).2).2<0:=by omega
 simp only[dV,dV.d1,apL,jC,jD,C.L_l,C.I_i,a,b,c,n1,n2,n3,decide_false,jS,aa,jI,jV,oE]
end Go.Ev
namespace Go.Ev
theorem qT {α:Type} (e:α→List C) {l:List α} {i:Nat} (h:i<l.length):(l.take i).map e++[e l[i]]=(l.take (i+1)).map e:=by
 rw[List.take_succ_eq_append_getElem h,List.map_append];rfl
theorem nZ {b:Bt} (h:b.marks.length≤1048576):fc b.e=some b.o:=by
 have:b.marks.length≤4294967296:=by omega
 simp[fc,fc.d1,Bt.e,Bt.o,this]
theorem pT {b:Bt} (h:b.marks.length≤1048576):gu b.e=some b.o:=by
 have:b.marks.length≤4294967296:=by omega
 simp[gu,gu.d1,Bt.e,Bt.o,this]
theorem pG {c:Cp} (h:c.likes.length≤1048576):fC c.e=some c.o:=by
 have:c.likes.length≤4294967296:=by omega
 simp[fC,fC.d1,Cp.e,Cp.o,this]
theorem rO {c:Cp} (h:c.likes.length≤1048576):ir c.e=some c.o:=by
 have:c.likes.length≤4294967296:=by omega
 simp[ir,ir.d1,Cp.e,Cp.o,this]
section
variable {f:Fl} (hz:f.Sz 1048576)
include hz
theorem jz:dk f.e=some f.e:=by
 have hlb:f.bts.length<big:=by have:=hz.1.1;simp only[big];omega
 have hlc:f.cps.length<big:=by have:=hz.2.2.1;simp only[big];omega
 have h1:=im (body:=apn 15 dk.d1) (S:=fun i=>[C.l (f.bts.map Bt.e),C.i (f.bts.length:Nat),C.i (i:Nat)]++f.e++[C.b false,C.b f.pack,.l aB,.l aB,.l aB,C.l ((f.bts.take i).map Bt.e),C.l (f.svs.map Sv.e),.l aB]) (n:=f.bts.length) (b:=0) (ys:=f.e++[C.b false,C.b f.pack,.l aB,.l aB,.l aB,C.l ((f.bts.take f.bts.length).map Bt.e),C.l (f.svs.map Sv.e),.l aB])
  (fun i hi=>by
   have hc:=nZ (hz.1.2 _ (List.getElem_mem hi)).2.2.1
   have hn:(f.bts.take i).length+1≤4294967296:=by rw[List.length_take];have:=hz.1.1;omega
   have sn:=qT Bt.e hi
   simp only[Bt.e,Bt.o] at hc
   simp only[Fl.e,jA,jB,apL,jC,jD,dk.d1,C.I_i,C.L_l,jW,jY,getD_map' Bt.e hi,ltL hi,decide_true,jR,jX,w1 hi hlb]
   simp only[Bt.e] at sn
   simp only[Bt.e,jC,jD,hc,call6,jI,C.L_l,rows,List.length_cons,List.length_nil,Nat.zero_add,hn,decide_true,jR,sn])
  (by simp[dk.d1,Fl.e]) f.bts.length 0 rfl
 have h2:=im (body:=apn 11 dk.d2) (S:=fun i=>[C.l (f.cps.map Cp.e),C.i (f.cps.length:Nat),C.i (i:Nat)]++[C.b false,C.b f.pack,.l aB,.l aB,.l aB,C.l (f.bts.map Bt.e),C.l (f.svs.map Sv.e),C.l ((f.cps.take i).map Cp.e)]) (n:=f.cps.length) (b:=2) (ys:=[C.b false,C.b f.pack,.l aB,.l aB,.l aB,C.l (f.bts.map Bt.e),C.l (f.svs.map Sv.e),C.l ((f.cps.take f.cps.length).map Cp.e)])
  (fun i hi=>by
   have hc:=pG (hz.2.2.2 _ (List.getElem_mem hi)).2.2.2.2.2.2.1
   have hn:(f.cps.take i).length+1≤4294967296:=by rw[List.length_take];have:=hz.2.2.1;omega
   have sn:=qT Cp.e hi
   simp only[Cp.e,Cp.o] at hc
   simp only[jA,jB,apL,jC,jD,dk.d2,C.I_i,C.L_l,jW,jY,getD_map' Cp.e hi,ltL hi,decide_true,jR,jX,w1 hi hlc]
   simp only[Cp.e] at sn
   simp only[Cp.e,jC,jD,hc,call12,jI,C.L_l,rows,List.length_cons,List.length_nil,Nat.zero_add,hn,decide_true,jR,sn])
  (by simp[dk.d2]) f.cps.length 0 rfl
 have hs:f.svs.length≤4294967296:=by have:=hz.2.1.1;omega
 simp only[Fl.e,jA,jB,Int.natCast_zero,List.take_zero,List.map_nil,List.take_length] at h1 h2
 simp only[dk,dk.d5,Fl.e,apL,jC,jD,C.L_l,C.B_b,jW,hs,decide_true,jR]
 rw[show aB=([]:List (List C)) from rfl] at h1 h2⊢
 rw[h1]
 simp only[dB,apL,jC,jD,dk.d4,C.L_l,jW]
 rw[h2]
 simp[dk.d3]
theorem iM:cB f.e=some f.e:=by
 have hlb:f.bts.length<big:=by have:=hz.1.1;simp only[big];omega
 have hlc:f.cps.length<big:=by have:=hz.2.2.1;simp only[big];omega
 have h1:=im (body:=apn 13 cB.d1) (S:=fun i=>[C.i (i:Nat)]++f.e++[C.b false,C.b f.pack,.l aB,.l aB,.l aB,C.l ((f.bts.take i).map Bt.e),C.l (f.svs.map Sv.e),.l aB]) (n:=f.bts.length) (b:=0) (ys:=f.e++[C.b false,C.b f.pack,.l aB,.l aB,.l aB,C.l ((f.bts.take f.bts.length).map Bt.e),C.l (f.svs.map Sv.e),.l aB])
  (fun i hi=>by
   have hc:=pT (hz.1.2 _ (List.getElem_mem hi)).2.2.1
   have hn:(f.bts.take i).length+1≤4294967296:=by rw[List.length_take];have:=hz.1.1;omega
   have sn:=qT Bt.e hi
   simp only[Bt.e,Bt.o] at hc
   simp only[Fl.e,jA,jB,apL,jC,jD,cB.d1,C.I_i,C.L_l,jW,jY,getD_map' Bt.e hi,ltL hi,decide_true,jR,jX,w1 hi hlb]
   simp only[Bt.e] at sn
   simp only[Bt.e,jC,jD,hc,call6,jI,C.L_l,rows,List.length_cons,List.length_nil,Nat.zero_add,hn,decide_true,jR,sn])
  (by simp[cB.d1,Fl.e]) f.bts.length 0 rfl
 have h2:=im (body:=apn 13 cB.d2) (S:=fun i=>[C.i (i:Nat)]++f.e++[C.b false,C.b f.pack,.l aB,.l aB,.l aB,C.l (f.bts.map Bt.e),C.l (f.svs.map Sv.e),C.l ((f.cps.take i).map Cp.e)]) (n:=f.cps.length) (b:=2) (ys:=[C.b false,C.b f.pack,.l aB,.l aB,.l aB,C.l (f.bts.map Bt.e),C.l (f.svs.map Sv.e),C.l ((f.cps.take f.cps.length).map Cp.e)])
  (fun i hi=>by
   have hc:=rO (hz.2.2.2 _ (List.getElem_mem hi)).2.2.2.2.2.2.1
   have hn:(f.cps.take i).length+1≤4294967296:=by rw[List.length_take];have:=hz.2.2.1;omega
   have sn:=qT Cp.e hi
   simp only[Cp.e,Cp.o] at hc
   simp only[Fl.e,jA,jB,apL,jC,jD,cB.d2,C.I_i,C.L_l,jW,jY,getD_map' Cp.e hi,ltL hi,decide_true,jR,jX,w1 hi hlc]
   simp only[Cp.e] at sn
   simp only[Cp.e,jC,jD,hc,call12,jI,C.L_l,rows,List.length_cons,List.length_nil,Nat.zero_add,hn,decide_true,jR,sn])
  (by simp[cB.d2,Fl.e]) f.cps.length 0 rfl
 have hs:0+f.svs.length≤4294967296:=by have:=hz.2.1.1;omega
 simp only[Fl.e,jA,jB,Int.natCast_zero,List.take_zero,List.map_nil,List.take_length] at h1 h2
 rw[show aB=([]:List (List C)) from rfl] at h1 h2
 simp only[cB,cB.d5,Fl.e,apL,jC,jD,C.L_l,C.B_b,jW,show aB=([]:List (List C)) from rfl,List.length_nil,hs,decide_true,jR,jB]
 rw[h1]
 simp only[dB,apL,jC,jD,cB.d4,C.L_l,jW]
 rw[h2]
 simp[cB.d3]
end
end Go.Ev
namespace Go.Ev
theorem pN:∀(a b c:List UInt8),Op.bytesLess a b=true→Op.bytesLess b c=true→Op.bytesLess a c=true
 |_,_,[],_,h2=>by cases ‹List UInt8›<;>simp[Op.bytesLess] at h2
 |_,[],_::_,h1,_=>by simp[Op.bytesLess] at h1
 |[],_::_,_::_,_,_=>by simp[Op.bytesLess]
 |x::a,y::b,z::c,h1,h2=>by
  simp only[Op.bytesLess,Bool.or_eq_true,Bool.and_eq_true,decide_eq_true_eq,beq_iff_eq] at h1 h2⊢
  have lt (p q:UInt8):p<q↔p.toNat<q.toNat:=Iff.rfl
  simp only[lt] at h1 h2⊢
  rcases h1 with h1|⟨rfl,h1⟩
  ·rcases h2 with h2|⟨rfl,h2⟩
   ·left;omega
   ·left;exact h1
  ·rcases h2 with h2|⟨rfl,h2⟩
   ·left;exact h2
   ·right;exact ⟨rfl,pN a b c h1 h2⟩
theorem rQ:∀(a:List UInt8),Op.bytesLess a a=false
 |[]=>rfl
 |x::r=>by
  have ih:=rQ r
  simp only[Op.bytesLess,ih]
  simp
theorem Es (a:Str):sEq a a=true:=(gR a a).2 rfl
theorem FD (a:Str):sLt a a=false:=rQ _
theorem y9 {a b c:Str} (h1:sLt a b=true) (h2:sLt b c=true):sLt a c=true:=pN _ _ _ h1 h2
theorem BV {α:Type} {lt:α→α→Bool} {l:List α} (ht:∀a b c,lt a b=true→lt b c=true→lt a c=true) (h:∀i (h:i+1<l.length),lt (l[i]'(by omega)) l[i+1]=true):
  ∀(d i:Nat) (hj:i+d+1<l.length),lt (l[i]'(by omega)) l[i+d+1]=true
 |0,i,hj=>h i hj
 |d+1,i,hj=>ht _ _ _ (BV ht h d i (by omega)) (h (i+d+1) (by omega))
def Cv (l:List Cp):Prop:=∀(i k:Nat) (hi:i<l.length) (hk:k<l.length),sEq l[i].name l[k].name=true→i=k
theorem E1 {f:Fl} (h:dz f=true) (d i:Nat) (hj:i+d+1<f.cps.length):sLt (f.cps[i]'(by omega)).name f.cps[i+d+1].name=true:=by
 refine BV (lt:=fun a b:Cp=>sLt a.name b.name) (fun a b c=>y9) (fun i hi=>?_) d i hj
 simp only[dz,Bool.and_eq_true] at h
 have:=(iq _ _ _).1 h.2.2.2.2.1 (i+1) (Nat.zero_le _) (by omega)
 have hi':i<f.cps.length:=by omega
 have e:(i+1==0)=false:=rfl
 simp only[cpA,List.getElem?_eq_getElem hi,Nat.add_sub_cancel,List.getElem?_eq_getElem hi',e,Bool.false_or,Bool.and_eq_true] at this
 exact this.2.2.1
def nN {α:Type} (g:α→α) (l:List α) (i:Nat):List α:=(l.take i).map g++l.drop i
theorem qf {α:Type} (g:α→α) (l:List α) (i:Nat):(nN g l i).length=l.length:=by simp[nN];omega
theorem ym {α:Type} (g:α→α) {l:List α} {i:Nat} (h:i<l.length):(nN g l i)[i]?=some l[i]:=by
 simp only[nN]
 rw[List.getElem?_append_right (by simp;omega)]
 simp[Nat.min_eq_left (Nat.le_of_lt h),h]
theorem yg {α:Type} (g:α→α) {l:List α} {i:Nat} (h:i<l.length):(nN g l i).set i (g l[i])=nN g l (i+1):=by
 have hl:((l.take i).map g).length=i:=by simp;omega
 simp only[nN]
 rw[List.set_append_right _ _ (by omega),hl,Nat.sub_self,List.drop_eq_getElem_cons h,List.set_cons_zero,List.take_succ_eq_append_getElem h,List.map_append,List.append_assoc]
 rfl
theorem zr {α:Type} (g:α→α) {l:List α} {i:Nat} (h:i<l.length) (e:g l[i]=l[i]):nN g l (i+1)=nN g l i:=by
 rw[←yg g h,e]
 refine List.ext_getElem? fun j=>?_
 rw[List.getElem?_set]
 split
 ·rename_i h1
  subst h1
  rw[qf,if_pos h,ym g h]
 ·rfl
theorem Bv {α:Type} (g:α→α) (l:List α):nN g l l.length=l.map g:=by simp[nN]
def inS (g:List Str) (s:Str):Bool:=g.any fun x=>sEq s x
def goC (g:List Str) (c:Cp):Cp:=bif inS g c.name then {c with at_:=mkS []} else c
def goF (f:Fl) (g:List Str):Fl:= {f with cps:=f.cps.map (goC g)}
section
variable {f:Fl} (hz:f.Sz 1048576) (g:List Str) (hg:g.length≤1048576)
include hz hg
end
end Go.Ev
namespace Go.Ev
structure Sp where
 copy:Str
 berth:Str
 gone:List Str
def Sp.e (s:Sp):List C:=[.s s.copy,.s s.berth,.l (s.gone.map sE)]
def Sp.Sz (K:Nat) (s:Sp):Prop:=s.copy.size≤K∧s.berth.size≤K∧Ao K s.gone
def fl0:Fl:=⟨false,[],[],[]⟩
def setAt (f:Fl) (i:Nat) (c:Cp) (b:Str):Fl:= {f with cps:=f.cps.set i {c with at_:=b}}
section
variable {f:Fl} (hz:f.Sz 1048576) {s:Sp} (hs:s.Sz 1048576)
include hz hs
end
end Go.Ev
namespace Go.Ev
theorem Ew:fl0.Sz 1048576:=by refine ⟨⟨by simp[fl0],fun _ h=>?_⟩,⟨by simp[fl0],fun _ h=>?_⟩,by simp[fl0],fun _ h=>?_⟩<;>simp[fl0] at h
theorem EM {f:Fl} (hz:f.Sz 1048576) {c:Cp} (hc:c.Sz 1048576) {b:Str} (hb:b.size≤1048576) (i:Nat):(setAt f i c b).Sz 1048576:=by
 refine ⟨hz.1,hz.2.1,by simp only[setAt,List.length_set];exact hz.2.2.1,fun x hx=>?_⟩
 simp only[setAt] at hx
 rcases List.mem_or_eq_of_mem_set hx with h|rfl
 ·exact hz.2.2.2 x h
 ·exact ⟨hc.1,hc.2.1,hc.2.2.1,hc.2.2.2.1,hc.2.2.2.2.1,hb,hc.2.2.2.2.2.2⟩
theorem Hp (a:Str):(a.toList==a.toList)=true:=Es a
end Go.Ev
namespace Go.Ev
def Hq (r:Int) (l:List Int):Nat:=(l.takeWhile fun x=>decide (x≥r)).length
def Iw (r:Int) (l:List Int):List Int:=l.take (Hq r l)++r::l.drop (Hq r l)
def GO (l:List Int):List Int:=l.foldl (fun a r=>Iw r a) []
end Go.Ev
namespace Go.Ev
def GM (f:Fl) (s:Str):Int:=match f.cps[(cIx f s).toNat]? with|some c=>c.rank|none=>0
def D8 (f:Fl) (g:List Str) (j:Nat):Bool:=decide (0≤cIx f (sAt g j))
def FU (f:Fl) (g:List Str):List Int:=g.map (GM f)
section
variable {f:Fl} (hz:f.Sz 1048576) (g:List Str) (hg:Ao 1048576 g)
include hz hg
end
end Go.Ev
namespace Go.Ev
section
variable {α:Type} (lt:α→α→Bool)
def HQ (c:α) (l:List α):Nat:=(l.takeWhile fun x=>lt x c).length
def Im (c:α) (l:List α):List α:=l.take (HQ lt c l)++c::l.drop (HQ lt c l)
def IJ (l:List α):List α:=l.foldl (fun a c=>Im lt c a) []
end
def ahd (a b:Cp):Bool:=ltE a.rank a.born a.name b.rank b.born b.name
def E0 (c:Cp):Bool:=sEq c.at_ (mkS [])
def waits (f:Fl):List Cp:=f.cps.filter E0
def queue (f:Fl):List Cp:=IJ ahd (waits f)
theorem DZ {l:List Cp} (hu:Cv l) {x y:Cp} (hx:x∈l) (hy:y∈l) (h:sEq x.name y.name=true):x=y:=by
 obtain ⟨i,hi,rfl⟩:=List.getElem_of_mem hx
 obtain ⟨k,hk,rfl⟩:=List.getElem_of_mem hy
 have:=hu i k hi hk h
 subst this;rfl
section
variable {f:Fl} (hz:f.Sz 1048576)
include hz
end
end Go.Ev
namespace Go.Ev
section
variable {f:Fl} (hz:f.Sz 1048576)
include hz
end
end Go.Ev
namespace Go.Ev
def Dy {α:Type} (lt:α→α→Bool):List α→List α→Int
 |[],[]=>0
 |[],_::_=>-1
 |_::_,[]=>1
 |x::a,y::b=>bif lt x y then-1 else bif lt y x then 1 else Dy lt a b
def ltI (x y:Int):Bool:=decide (x<y)
end Go.Ev
namespace Go.Ev
def HA (c:Cp) (b:Bt) (d:Cp):Bool:=sEq d.at_ b.name&&decide (d.rank<c.rank)
def Ej (f:Fl) (c:Cp) (b:Bt):List Cp:=f.cps.filter (HA c b)
def HM (set i:Nat):Bool:=set/2^i%2==1
def FF (l:List Cp) (set:Nat):Nat→List Cp
 |0=>[]
 |i+1=>match l[i]? with
  |some d=>bif HM set i then FF l set i++[d] else FF l set i
  |none=>FF l set i
def IK (f:Fl) (c:Cp) (b:Bt) (set:Nat):List Str:=(FF (Ej f c b) set (Ej f c b).length).map Cp.name
structure zy (f:Fl) (l:List Str):Prop where
 len:l.length≤f.cps.length
 mem:∀s,s∈l→∃d,d∈f.cps∧d.name=s
theorem Ey {f:Fl} (hu:Cv f.cps) {d:Cp} (hd:d∈f.cps):∃k,∃hk:k<f.cps.length,cIx f d.name=(k:Nat)∧f.cps[k]=d:=by
 rcases uZ f d.name with h|⟨k,hk,h,e⟩
 ·have:=sb _ _ _ h
  have h2:f.cps.any (fun x:Cp=>sEq x.name d.name)=true:=List.any_eq_true.2 ⟨d,hd,(gR _ _).2 rfl⟩
  rw[this] at h2;cases h2
 ·exact ⟨k,hk,h,DZ hu (List.getElem_mem hk) hd e⟩
theorem zy.sz {f:Fl} {l:List Str} (h:zy f l) (hz:f.Sz 1048576):Ao 1048576 l:=by
 refine ⟨Nat.le_trans h.len hz.2.2.1,fun s hs=>?_⟩
 obtain ⟨d,hd,rfl⟩:=h.mem s hs
 exact (hz.2.2.2 d hd).1
theorem zy.ix {f:Fl} {l:List Str} (h:zy f l) (hu:Cv f.cps):∀j (hj:j<l.length),∃k,∃hk:k<f.cps.length,cIx f l[j]=(k:Nat)∧sEq f.cps[k].name l[j]=true:=by
 intro j hj
 obtain ⟨d,hd,e⟩:=h.mem l[j] (List.getElem_mem hj)
 obtain ⟨k,hk,h1,h2⟩:=Ey hu hd
 exact ⟨k,hk,by rw[←e];exact h1,by rw[h2,e];exact (gR _ _).2 rfl⟩
theorem zy.there {f:Fl} {l:List Str} (h:zy f l) (hu:Cv f.cps):aP (D8 f l) 0 l.length=true:=by
 rw[iq]
 intro j _ hj
 have hj:j<l.length:=by omega
 obtain ⟨k,hk,h1,_⟩:=h.ix hu j hj
 rw[D8,lX hj,h1]
 simp
def vu (f:Fl) (l:List Str):List Int:=GO (FU f l)
def HI (f:Fl) (l best:List Str):Bool:=decide (0<Dy ltI (vu f l) (vu f best))||(Dy ltI (vu f l) (vu f best)==0&&decide (0≤Dy sLt l best))
def Iq (f:Fl) (c:Cp) (b:Bt) (l:List Str):Bool:=Hy f l&&(xj (goF f l) c b false==0)
def HK (f:Fl) (c:Cp) (b:Bt) (st:Option (List Str)) (l:List Str):Option (List Str):=
 bif (match st with|some best=>HI f l best|none=>false) then st else bif Iq f c b l then some l else st
def vic (f:Fl) (c:Cp) (b:Bt):Nat→Option (List Str)
 |0=>none
 |k+1=>HK f c b (vic f c b k) (IK f c b k)
end Go.Ev
namespace Go.Ev
section
variable {f:Fl} (hz:f.Sz 1048576) {c:Cp} (hc:c.Sz 1048576) {b:Bt} (hb:b.Sz 1048576) (hbo:fQ b=true) (hv:dz f=true) (hr:0≤c.room∧c.room≤1000) (hh:0≤c.hold∧c.hold≤1000)
include hz hc hb hbo hv hr hh
def GX (f:Fl) (c:Cp) (b:Bt):Option (List Str):=vic f c b (2^(Ej f c b).length)
end
end Go.Ev
namespace Go.Ev
section
variable {f:Fl} (hz:f.Sz 1048576) {c:Cp} (hc:c.Sz 1048576) {b:Bt} (hb:b.Sz 1048576) (hbo:fQ b=true) (hv:dz f=true) (hr:0≤c.room∧c.room≤1000) (hh:0≤c.hold∧c.hold≤1000) (ha:0≤c.apart∧c.apart≤2)
include hz hc hb hbo hv hr hh ha
end
end Go.Ev
namespace Go.Ev
section
variable {f:Fl} (hz:f.Sz 1048576) (cn bn:Str)
include hz
end
end Go.Ev
namespace Go.Ev
theorem DK {f:Fl} (h:dz f=true) (d i:Nat) (hj:i+d+1<f.bts.length):sLt (f.bts[i]'(by omega)).name f.bts[i+d+1].name=true:=by
 refine BV (lt:=fun a b:Bt=>sLt a.name b.name) (fun a b c=>y9) (fun i hi=>?_) d i hj
 simp only[dz,Bool.and_eq_true] at h
 have:=(iq _ _ _).1 h.2.2.2.2.2.1 (i+1) (Nat.zero_le _) (by omega)
 have hi':i<f.bts.length:=by omega
 have e:(i+1==0)=false:=rfl
 simp only[btA,List.getElem?_eq_getElem hi,Nat.add_sub_cancel,List.getElem?_eq_getElem hi',e,Bool.false_or,Bool.and_eq_true] at this
 exact this.2
abbrev FSt:=Option (Bt×List Str)
def HD (f:Fl) (c:Cp) (b:Bt) (l:List Str) (b0:Bt) (l0:List Str):Bool:=
 decide (0<Dy ltI (vu f l) (vu f l0))||(Dy ltI (vu f l) (vu f l0)==0&&!better f.pack (Af (goF f l) c b) (Af (goF f l0) c b0))
def FG (f:Fl) (c:Cp) (st:FSt) (b:Bt):FSt:=match GX f c b with
 |none=>st
 |some l=>match st with
  |none=>some (b,l)
  |some (b0,l0)=>bif HD f c b l b0 l0 then st else some (b,l)
def force (f:Fl) (c:Cp):Nat→FSt
 |0=>none
 |i+1=>match f.bts[i]? with|some b=>FG f c (force f c i) b|none=>force f c i
theorem be (b:Bt):b.e=[.s b.name,.s b.zone,.l (b.marks.map sE),.i b.room,.i b.hold,.b b.shut]:=rfl
section
variable {f:Fl} (hz:f.Sz 1048576) {c:Cp} (hc:c.Sz 1048576) (hv:dz f=true) (hr:0≤c.room∧c.room≤1000) (hh:0≤c.hold∧c.hold≤1000) (ha:0≤c.apart∧c.apart≤2)
include hz hc hv hr hh ha
end
end Go.Ev
namespace Go.Ev
abbrev Stp:=Str×Str×List Str
def Is (f:Fl) (c:Cp):Option Stp:=bif sEq (CE f c) (mkS []) then none else some (c.name,CE f c,[])
section
variable {f:Fl} (hz:f.Sz 1048576) (hv:dz f=true)
include hz hv
end
end Go.Ev
namespace Go.Ev
def atP (nm:Str) (x:Cp):Bool:=sEq x.at_ nm
def G8 (p:Cp→Bool) (g:Cp→Int) (l:List Cp):Int:=(l.map fun x=>bif p x then g x else 0).sum
structure VF (f:Fl):Prop where
 n12:f.bts.length≤12
 n30:f.svs.length≤30
 n60:f.cps.length≤60
 sv:aP (svA f) 0 f.svs.length=true
 cp:∀i (h:i<f.cps.length),mw f.cps[i]=true∧f.svs.any (fun s=>sEq s.name f.cps[i].svc)=true∧(∀h':0<i,sLt (f.cps[i-1]'(by omega)).name f.cps[i].name=true)∧(sEq f.cps[i].at_ (mkS [])=true∨f.bts.any (fun b=>sEq b.name f.cps[i].at_)=true)
 bt:aP (btA f) 0 f.bts.length=true
 fit:∀b,b∈f.bts→G8 (atP b.name) Cp.room f.cps≤b.room∧G8 (atP b.name) Cp.hold f.cps≤b.hold∧G8 (atP b.name) (fun _=>1) f.cps≤10
end Go.Ev
namespace Go.Ev
end Go.Ev
namespace Go.Ev
def Ii (f:Fl):Option Stp:=(queue f).findSome? (Is f)
def plF (f:Fl) (x:Stp):Fl:=match f.cps[(cIx f x.1).toNat]? with|some c=>setAt f (cIx f x.1).toNat c x.2.1|none=>f
structure Gt (f:Fl) (x:Stp) where
 i:Nat
 hi:i<f.cps.length
 b:Bt
 hb:b∈f.bts
 e:x=(f.cps[i].name,b.name,[])
 ix:cIx f f.cps[i].name=(i:Nat)
 w:sEq f.cps[i].at_ (mkS [])=true
 fit:xj f f.cps[i] b false=0
 put:plF f x=setAt f i f.cps[i] b.name
theorem Gt.sz {f:Fl} {x:Stp} (F:Gt f x) (hz:f.Sz 1048576):(plF f x).Sz 1048576:=by
 rw[F.put]
 exact EM hz (hz.2.2.2 _ (List.getElem_mem F.hi)) (hz.1.2 _ F.hb).1 _
def stS (x:Stp):Sp:=⟨x.1,x.2.1,x.2.2⟩
def place:Nat→Fl→List Sp→Fl×List Sp
 |0,f,s=>(f,s)
 |k+1,f,s=>match Ii f with
  |some x=>place k (plF f x) (s++[stS x])
  |none=>(f,s)
end Go.Ev
namespace Go.Ev
section
variable {f:Fl} (hz:f.Sz 1048576)
include hz
end
section
variable {f:Fl} {s:List Sp} (hv:VF f) (hz:f.Sz 1048576) (hs:s.length≤60)
include hv hz hs
end
end Go.Ev
namespace Go.Ev
end Go.Ev
namespace Go.Ev
end Go.Ev
namespace Go.Ev
def BY (bs:List (List C)):Prop:=∀r,r∈bs→∃n:Int,r=[.i n]∧0≤n∧n≤255
end Go.Ev
namespace Go.Ev
end Go.Ev
namespace Go.Ev
section
variable {bs:List (List C)} (hb:BY bs) (hl:bs.length≤2000)
include hb hl
end
end Go.Ev
namespace Go.Ev
section
variable {bs:List (List C)} (hb:BY bs) (hl:bs.length≤2000)
include hb hl
end
end Go.Ev
namespace Go.Ev
section
variable {bs:List (List C)} (hb:BY bs) (hl:bs.length≤2000)
include hb hl
end
end Go.Ev
namespace Go.Ev
section
variable {f:Fl} (hz:f.Sz 1048576)
include hz
end
end Go.Ev
namespace Go.Ev
section
variable {f:Fl} (hz:f.Sz 1048576)
include hz
end
theorem Cp.Sz.up {c:Cp} (h:c.Sz 1000):c.Sz 1048576:=⟨by have:=h.1;omega,by have:=h.2.1;omega,by have:=h.2.2.1;omega,by have:=h.2.2.2.1;omega,by have:=h.2.2.2.2.1;omega,by have:=h.2.2.2.2.2.1;omega,by have:=h.2.2.2.2.2.2.1;omega,fun x hx=>Nat.le_trans (h.2.2.2.2.2.2.2 x hx) (by decide)⟩
theorem Bt.Sz.up {b:Bt} (h:b.Sz 1000):b.Sz 1048576:=⟨by have:=h.1;omega,by have:=h.2.1;omega,by have:=h.2.2.1;omega,fun x hx=>Nat.le_trans (h.2.2.2 x hx) (by decide)⟩
theorem Fl.Sz.up {f:Fl} (h:f.Sz 1000):f.Sz 1048576:=⟨⟨by have:=h.1.1;omega,fun b hb=>(h.1.2 b hb).up⟩,⟨by have:=h.2.1.1;omega,fun s hs=>Nat.le_trans (h.2.1.2 s hs) (by decide)⟩,by have:=h.2.2.1;omega,fun c hc=>(h.2.2.2 c hc).up⟩
section
variable {bts:List Bt} {svs:List Sv} {pk:Bool} (hbt:bts.length≤12∧∀b,b∈bts→b.Sz 1000) (hsv:svs.length≤30∧∀s,s∈svs→s.Sz 1000)
include hbt hsv
end
end Go.Ev
namespace Go.Ev
section
variable {bs:List (List C)} (hb:BY bs) (hl:bs.length≤2000)
include hb hl
section
variable {bts:List Bt} {svs:List Sv} {pk:Bool} (hbt:bts.length≤12∧∀b,b∈bts→b.Sz 1000) (hsv:svs.length≤30∧∀s,s∈svs→s.Sz 1000)
include hbt hsv
end
end
end Go.Ev
namespace Go.Ev
section
variable {bs:List (List C)} (hb:BY bs) (hl:bs.length≤2000)
include hb hl
section
variable {bts:List Bt} {svs:List Sv} {pk:Bool} (hbt:(1≤bts.length∧bts.length≤12)∧∀b,b∈bts→b.Sz 1000) (hsv:svs.length≤30∧∀s,s∈svs→s.Sz 1000)
include hbt hsv
end
end
end Go.Ev
namespace Go.Ev
section
variable {bs:List (List C)} (hb:BY bs) (hl:bs.length≤2000)
include hb hl
end
end Go.Ev
set_option maxHeartbeats 2000000
namespace Go.Ev
section
variable {bs:List (List C)} (hb:BY bs) (hl:bs.length≤2000)
include hb hl
omit hb hl in
end
end Go.Ev
namespace Go.Ev
section
variable {bs:List (List C)} (hb:BY bs) (hl:bs.length≤2000)
include hb hl
end
end Go.Ev
set_option maxHeartbeats 1000000
namespace Go.Ev
end Go.Ev
namespace Go.Ev
section
variable {f:Fl} (h:VF f) {i:Nat} (hi:i<f.cps.length) (b:Bt)
include h hi
end
end Go.Ev
namespace Go.Ev
section
variable {bs:List (List C)} (hb:BY bs) (hl:bs.length≤2000)
include hb hl
end
end Go.Ev
namespace Go.Ev
end Go.Ev
namespace Go.Ev
end Go.Ev
namespace Go.Ev
end Go.Ev
namespace Go.Ev
section
variable {g:Fl} (h:VF g) {i:Nat} (hi:i<g.cps.length) {b:Bt} (hb:b∈g.bts) (hw:sEq g.cps[i].at_ (mkS [])=true) (hfit:xj g g.cps[i] b false=0) {j:Nat} (hj:j<g.cps.length) (hne:i≠j) {b':Bt} (hb':b'∈g.bts) (ha:sEq g.cps[j].at_ b'.name=true) (h0:xj g g.cps[j] b' true=0)
include h hi hb hw hfit hj hne hb' ha h0
end
end Go.Ev
namespace Go.Ev
structure PlI (f0 g:Fl) (n:Nat):Prop where
 b:g.bts=f0.bts
 s:g.svs=f0.svs
 p:g.pack=f0.pack
 l:g.cps.length=f0.cps.length
 c:∀i (h1:i<g.cps.length) (h2:i<f0.cps.length),g.cps[i].name=f0.cps[i].name∧(E0 f0.cps[i]=false→g.cps[i]=f0.cps[i])
 n:(waits g).length+n=(waits f0).length
 r:Fa f0=[]→∀i (h1:i<g.cps.length),E0 g.cps[i]=false→sEq g.cps[i].near g.cps[i].svc=false→∀b',b'∈g.bts→sEq g.cps[i].at_ b'.name=true→xj g g.cps[i] b' true=0
end Go.Ev
namespace Go.Ev
end Go.Ev
namespace Go.Ev
section
variable {f g:Fl} {n:Nat} (hz:f.Sz 1048576) (gz:g.Sz 1048576) (hg:dz g=true) (P:PlI f g n) (hn:Ii g=none)
include hz gz hg P hn
end
end Go.Ev
namespace Go.Ev
section
variable {f:Fl} (hz:f.Sz 1048576)
include hz
end
end Go.Ev
namespace Go.Ev
structure Iu (f:Fl) (t:Cp) (j:Nat) (r:List Cp):Prop where
 hj:j≤f.cps.length
 lo:∀m (hm:m<f.cps.length),m<j→sLt f.cps[m].name t.name=true
 hi:∀hj:j<f.cps.length,sLt f.cps[j].name t.name=false
 hr:(r=f.cps.drop (j+1)∧∀hj:j<f.cps.length,sEq f.cps[j].name t.name=true)∨(r=f.cps.drop j∧∀hj:j<f.cps.length,sEq f.cps[j].name t.name=false)
section
variable {f:Fl} (h:VF f) {t:Cp} {j:Nat} {r:List Cp} (I:Iu f t j r)
include h I
end
end Go.Ev
namespace Go.Ev
end Go.Ev
namespace Go.Ev
end Go.Ev
namespace Go.Ev
end Go.Ev
namespace Go.Ev
end Go.Ev
namespace Go.Ev
def Cp.q (c:Cp) (bs:List (List C)) (p:Int):List C:=[.s c.name,.s c.svc,.i c.rank,.i c.born,.i c.room,.i c.hold,.s c.sel,.i c.apart,.s c.near,.s c.fixed,.s c.at_,.l bs,.i p,.l (c.likes.map Lk.e)]
section
variable {bs:List (List C)} (hb:BY bs) (hl:bs.length≤2000)
include hb hl
end
end Go.Ev
namespace Go.Ev
section
variable {f:Fl} (hz:f.Sz 1048576)
include hz
end
end Go.Ev
namespace Go.Ev
section
variable {bts:List Bt} {svs:List Sv} {pk:Bool} (hbt:bts.length≤12∧∀b,b∈bts→b.Sz 1000) (hsv:svs.length≤30∧∀s,s∈svs→s.Sz 1000)
include hbt hsv
end
section
variable {bs:List (List C)} (hb:BY bs) (hl:bs.length≤2000)
include hb hl
section
variable {bts:List Bt} {svs:List Sv} {pk:Bool} (hbt:bts.length≤12∧∀b,b∈bts→b.Sz 1000) (hsv:svs.length≤30∧∀s,s∈svs→s.Sz 1000)
include hbt hsv
end
section
variable {bts:List Bt} {svs:List Sv} {pk:Bool} (hbt:(1≤bts.length∧bts.length≤12)∧∀b,b∈bts→b.Sz 1000) (hsv:svs.length≤30∧∀s,s∈svs→s.Sz 1000)
include hbt hsv
end
end
end Go.Ev
namespace Go.Ev
structure Ti (f:Fl):Prop where
 z:f.Sz 1000
 n:f.cps.length≤60
 nb:f.bts.length≤12
 ns:f.svs.length≤30
 al:(1≤f.bts.length∧f.svs.length=4)∨f.bts=[]
theorem Ti.set {f:Fl} (T:Ti f) (i:Nat) {c:Cp} (hc:c.Sz 1000):Ti {f with cps:=f.cps.set i c}:=
 ⟨⟨T.z.1,T.z.2.1,by show (f.cps.set i c).length≤1000;rw[List.length_set];have:=T.n;omega,fun x hx=>(List.mem_or_eq_of_mem_set hx).elim (T.z.2.2.2 x) fun e=>e▸hc⟩,by show (f.cps.set i c).length≤60;rw[List.length_set];exact T.n,T.nb,T.ns,T.al⟩
section
variable {bs:List (List C)} (hb:BY bs) (hl:bs.length≤2000)
include hb hl
end
end Go.Ev
namespace Go.Ev
section
variable {bs:List (List C)} (hb:BY bs) (hl:bs.length≤2000)
include hb hl
end
end Go.Ev
namespace Go.Ev
section
variable {f:Fl} {s:Sp} (hz:f.Sz 1048576) (hs:s.Sz 1048576)
include hz hs
end
end Go.Ev
namespace Go.Ev
structure Evn where
 kd:Int
 b:Bt
 c:Cp
 nm:Str
 at_:Str
def Evn.e (e:Evn):List C:=.i e.kd::(e.b.e++e.c.e++[.s e.nm,.s e.at_])
theorem Evn.e_l (e:Evn):e.e=[.i e.kd,.s e.b.name,.s e.b.zone,.l (e.b.marks.map sE),.i e.b.room,.i e.b.hold,.b e.b.shut,.s e.c.name,.s e.c.svc,.i e.c.rank,.i e.c.born,.i e.c.room,.i e.c.hold,.s e.c.sel,.l (e.c.likes.map Lk.e),.i e.c.apart,.s e.c.near,.s e.c.fixed,.s e.c.at_,.s e.nm,.s e.at_]:=rfl
def Evn.Sz (K:Nat) (e:Evn):Prop:=e.b.Sz K∧e.c.Sz K∧e.nm.size≤K∧e.at_.size≤K
section
variable {α:Type} (nm:α→Str) (x:α)
def jc (l:List α):Nat:=(l.takeWhile fun y=>sLt (nm y) (nm x)).length
def pO (l:List α):List α:=match l.drop (jc nm x l) with|[]=>[]|y::r=>bif sEq (nm y) (nm x) then r else y::r
def lR (l:List α):List α:=l.take (jc nm x l)++[x]++pO nm x l
theorem Ak (l:List α):jc nm x l≤l.length:=(List.takeWhile_sublist _).length_le
theorem Ae (l:List α) {i:Nat} (h:i<jc nm x l) (hi:i<l.length):sLt (nm l[i]) (nm x)=true:=by
 have h1:(l.takeWhile fun y=>sLt (nm y) (nm x))[i]?=some l[i]:=by
  obtain ⟨t,ht⟩:=List.takeWhile_prefix (p:=fun y=>sLt (nm y) (nm x)) (l:=l)
  have h2:=congrArg (fun m=>m[i]?) ht
  simp only[List.getElem?_append_left h,List.getElem?_eq_getElem hi] at h2
  exact h2
 have h3:=List.mem_of_getElem? h1
 have:=List.all_takeWhile (p:=fun y=>sLt (nm y) (nm x)) (l:=l)
 exact List.all_eq_true.1 this _ h3
theorem CX (l:List α) (h:jc nm x l<l.length):sLt (nm l[jc nm x l]) (nm x)=false:=by
 cases hq:sLt (nm l[jc nm x l]) (nm x) with
 |false=>rfl
 |true=>
  exfalso
  have key:∀(l:List α) (h:jc nm x l<l.length),sLt (nm l[jc nm x l]) (nm x)=true→False:=by
   intro l
   induction l with
   |nil=>intro h;simp at h
   |cons y r ih=>
    intro h hq
    cases hy:sLt (nm y) (nm x) with
    |false=>
     have:jc nm x (y::r)=0:=by simp[jc,hy]
     simp only[this,List.getElem_cons_zero] at hq
     rw[hy] at hq;cases hq
    |true=>
     have:jc nm x (y::r)=jc nm x r+1:=by simp[jc,hy]
     simp only[this,List.getElem_cons_succ] at hq
     exact ih (by rw[this] at h;simpa using h) hq
  exact key l h hq
theorem xZ (l:List α):(pO nm x l).length+jc nm x l≤l.length:=by
 have:=Ak nm x l
 have hd:(l.drop (jc nm x l)).length=l.length-jc nm x l:=List.length_drop
 unfold pO
 split
 ·simp;omega
 ·rename_i y r h
  rw[h] at hd
  simp only[List.length_cons] at hd
  cases sEq (nm y) (nm x)<;>simp<;>omega
theorem AM (l:List α):(lR nm x l).length≤l.length+1:=by
 have:=xZ nm x l
 simp only[lR,List.length_append,List.length_take,List.length_cons,List.length_nil];omega
theorem A5 (l:List α) (y:α) (h:y∈lR nm x l):y∈l∨y=x:=by
 simp only[lR,List.mem_append,List.mem_singleton] at h
 rcases h with (h|h)|h
 ·exact .inl (List.mem_of_mem_take h)
 ·exact .inr h
 ·left
  unfold pO at h
  split at h
  ·simp at h
  ·rename_i z r hd
   apply List.mem_of_mem_drop (i:=jc nm x l)
   rw[hd]
   cases hz:sEq (nm z) (nm x) with
   |true=>rw[hz] at h;exact List.mem_cons_of_mem _ h
   |false=>rw[hz] at h;exact h
variable {l:List α} (hs:∀(i j:Nat) (hi:i<l.length) (hj:j<l.length),i<j→sLt (nm l[i]) (nm l[j])=true)
include hs
theorem CO {m:Nat} (hm:m<l.length) (he:sEq (nm l[m]) (nm x)=true):lR nm x l=l.set m x:=by
 have en:=(gR _ _).1 he
 have hk:jc nm x l=m:=by
  rcases Nat.lt_trichotomy (jc nm x l) m with h|h|h
  ·have h1:=CX nm x l (by omega)
   have h2:=hs _ _ (by omega) hm h
   rw[en,h1] at h2;cases h2
  ·exact h
  ·have h1:=Ae nm x l h hm
   rw[en,FD] at h1;cases h1
 have hd:l.drop m=l[m]::l.drop (m+1):=List.drop_eq_getElem_cons hm
 unfold lR pO
 rw[hk,hd]
 simp only[he,jR]
 rw[List.set_eq_take_append_cons_drop,if_pos hm,List.append_assoc]
 rfl
def gtP (y:α):Bool:=!(sLt (nm y) (nm x)||sEq (nm y) (nm x))
omit hs in
theorem xA (p:α→Bool):∀(l:List α) (n k:Nat) (hk:k<l.length),(∀i (hi:i<l.length),i<k→p l[i]=false)→p l[k]=true→dX p l n=((n+k:Nat):Int)
 |[],_,_,hk,_,_=>by simp at hk
 |y::r,n,0,_,_,h=>by
  have h:p y=true:=h
  simp[dX,h]
 |y::r,n,k+1,hk,h0,h=>by
  have hy:p y=false:=h0 0 (by simp) (by omega)
  have:=xA p r (n+1) k (by simpa using hk) (fun i hi hlt=>by have:=h0 (i+1) (by simpa using hi) (by omega);simpa using this) (by simpa using h)
  simp only[dX,hy]
  rw[jS,this]
  congr 1;omega
omit hs in
theorem vQ (p:α→Bool):∀(l:List α) (n:Nat),(∀i (hi:i<l.length),p l[i]=false)→dX p l n<0
 |[],_,_=>by simp[dX]
 |y::r,n,h=>by
  have hy:p y=false:=h 0 (by simp)
  have:=vQ p r (n+1) (fun i hi=>by have:=h (i+1) (by simpa using hi);simpa using this)
  simp only[dX,hy,jS]
  exact this
theorem C0 (hne:∀i (hi:i<l.length),sEq (nm l[i]) (nm x)=false):
  (dX (gtP nm x) l 0<0∧lR nm x l=l++[x])∨∃j,j<l.length∧dX (gtP nm x) l 0=(j:Nat)∧lR nm x l=l.take j++[x]++l.drop j:=by
 have hT:pO nm x l=l.drop (jc nm x l):=by
  unfold pO
  split
  ·rename_i h;rw[h]
  ·rename_i y r h
   have hk:jc nm x l<l.length:=by
    rcases Nat.lt_or_ge (jc nm x l) l.length with h1|h1
    ·exact h1
    ·rw[List.drop_eq_nil_of_le h1] at h;cases h
   have hd:l.drop (jc nm x l)=l[jc nm x l]::l.drop (jc nm x l+1):=List.drop_eq_getElem_cons hk
   rw[hd] at h
   obtain ⟨rfl,rfl⟩:=List.cons.inj h
   rw[hne _ hk,jS,hd]
 rcases Nat.lt_or_ge (jc nm x l) l.length with hk|hk
 ·refine .inr ⟨jc nm x l,hk,?_,by rw[lR,hT]⟩
  rw[xA (gtP nm x) l 0 (jc nm x l) hk (fun i hi hlt=>by simp[gtP,Ae nm x l hlt hi]) (by simp[gtP,CX nm x l hk,hne _ hk]),Nat.zero_add]
 ·refine .inl ⟨vQ _ _ _ fun i hi=>by simp[gtP,Ae nm x l (by omega) hi],?_⟩
  rw[lR,hT,List.take_of_length_le hk,List.drop_eq_nil_of_le hk,List.append_nil]
end
theorem zF {α:Type} {l:List α} (p:α→Bool) {body:List C→R} {S:Nat→List C} {b:Nat} (hs:∀i (h:i<l.length),body (S i)=if p l[i]=true then some (.again (S (i+1))) else some (.brk b (S i))) (he:body (S l.length)=some (.brk b (S l.length))):
  ∀d i,i+d=l.length→lim body (S i)=some (.brk b (S (i+((l.drop i).takeWhile p).length)))
 |0,i,h=>by
  have:i=l.length:=by omega
  subst this
  rw[List.drop_length]
  exact bB he
 |d+1,i,h=>by
  have hi:i<l.length:=by omega
  rw[List.drop_eq_getElem_cons hi]
  by_cases hc:p l[i]=true
  ·rw[bc (by rw[hs i hi,if_pos hc]),zF p hs he d (i+1) (by omega)]
   simp only[List.takeWhile,hc,List.length_cons]
   rw[Nat.add_right_comm,Nat.add_assoc]
  ·rw[bB (by rw[hs i hi,if_neg hc])]
   simp only[List.takeWhile,hc,List.length_nil,Nat.add_zero]
def lz (nm:Str) (c:Cp):Cp:=bif sEq c.at_ nm then {c with at_:=mkS []} else c
def eo (f:Fl) (e:Evn):Fl×Bool:=
 bif e.kd==1 then ({f with bts:=lR Bt.name e.b f.bts},true) else
 bif e.kd==2 then (bif decide (bIx f e.nm<0) then (f,false) else ({f with bts:=f.bts.take (bIx f e.nm).toNat++f.bts.drop ((bIx f e.nm).toNat+1),cps:=f.cps.map (lz e.nm)},true)) else
 bif e.kd==3 then ({f with cps:=lR Cp.name e.c f.cps},true) else
 bif e.kd==4 then (bif decide (cIx f e.nm<0) then (f,false) else ({f with cps:=f.cps.take (cIx f e.nm).toNat++f.cps.drop ((cIx f e.nm).toNat+1)},true)) else
 bif e.kd==5 then (bif decide (cIx f e.nm<0)||(!sEq e.at_ (mkS [])&&decide (bIx f e.at_<0)) then (f,false) else (match f.cps[(cIx f e.nm).toNat]? with|some c=>({f with cps:=f.cps.set (cIx f e.nm).toNat {c with at_:=e.at_}},true)|none=>(f,false))) else
 (f,true)
def B4 (f:Fl) (e:Evn):Fl×Int:=
 bif !dz f then (fl0,1) else bif (eo f e).2&&!dz (eo f e).1 then (fl0,2) else bif !(eo f e).2 then (fl0,3) else bif !within e.kd 1 5 then (fl0,4) else ((eo f e).1,0)
def yC (r:Fl×Int):List C:=[.b r.1.pack,.i r.2,.l (r.1.bts.map Bt.e),.l (r.1.svs.map Sv.e),.l (r.1.cps.map Cp.e)]
abbrev mM (x:Fl×Bool):List C:=[.b x.1.pack,.b x.2,.l (x.1.bts.map Bt.e),.l (x.1.svs.map Sv.e),.l (x.1.cps.map Cp.e)]
theorem AW {α:Type} (nm:α→Str) (x:α) (E:α→List C) (l:List α) {K:Nat} (hK:K=jc nm x l):(lR nm x l).map E=(l.map E).take K++[E x]++(pO nm x l).map E:=by
 subst hK
 simp only[lR,List.map_append,List.map_take,List.map_cons,List.map_nil]
section
variable {f:Fl} (hz:f.Sz 1048576) (hv:dz f=true)
include hz hv
theorem HH {e:Evn} (he:e.Sz 1048576) (hk:e.kd=1):au (f.e++e.e)=some (mM ({f with bts:=lR Bt.name e.b f.bts},true)):=by
 have hF:=iM hz
 have hbo:=pT he.1.2.2.1
 have h1000:f.bts.length≤1048576:=hz.1.1
 have hlc:f.bts.length<big:=by simp only[big];omega
 have hL:=zF (l:=f.bts) (fun y=>sLt y.name e.b.name) (b:=1) (body:=apn 30 au.d1) (S:=fun i=>[C.i (i:Nat)]++e.e++[.b false,.b f.pack,.l [],.l [],.l [],.l (f.bts.map Bt.e),.l (f.svs.map Sv.e),.l (f.cps.map Cp.e)])
  (fun i hi=>by
   simp only[Evn.e,Bt.e,Cp.e,jA,jB,apL,jC,jD,au.d1,C.I_i,C.L_l,C.S_s,jW,jY,ltL hi,decide_true,jR,jX,w1 hi hlc]
   rw[getD_map' Bt.e hi]
   simp only[Bt.e,jC,C.S_s]
   rw[show Op.bytesLess f.bts[i].name.toList e.b.name.toList=sLt f.bts[i].name e.b.name from rfl]
   cases sLt f.bts[i].name e.b.name<;>simp)
  (by simp[Evn.e,Bt.e,Cp.e,au.d1])
  f.bts.length 0 (by omega)
 rw[Nat.zero_add,List.drop_zero] at hL
 generalize hj:(f.bts.takeWhile fun y=>sLt y.name e.b.name).length=j at hL
 have hjk:j=jc Bt.name e.b f.bts:=hj.symm
 have hjl:j≤f.bts.length:=by rw[hjk];exact Ak _ _ _
 have hmp:=AW Bt.name e.b Bt.e f.bts hjk
 have hTl:=xZ Bt.name e.b f.bts
 rw[←hjk] at hTl
 have d2:∀r:List (List C),r=(pO Bt.name e.b f.bts).map Bt.e→apn 31 au.d2 ([C.i (j:Nat),.l r]++e.e++[.b false,.b f.pack,.l (f.bts.map Bt.e),.l [],.l [],.l [],.l (f.svs.map Sv.e),.l (f.cps.map Cp.e)])=some (.ret (mM ({f with bts:=lR Bt.name e.b f.bts},true))):=fun r hr=>by
  subst hr
  have b1:(j:Int)≤(f.bts.length:Int):=by omega
  have b2:min j f.bts.length≤4294967296:=by omega
  have b3:min j f.bts.length+1≤4294967296:=by omega
  have b4:min j f.bts.length+1+(pO Bt.name e.b f.bts).length≤4294967296:=by omega
  simp only[mM,hmp]
  simp only[Bt.e,Bt.o] at hbo
  simp only[Evn.e,Bt.e,Cp.e,jA,jB,apL,jC,jD,au.d2,C.I_i,C.L_l,jW,jY,jX,decide_true,jR,hbo,call6,jI,b1,List.drop_zero,aB,List.length_take,b2,Nat.zero_add,List.length_nil,List.length_append,rows,List.length_cons,b3,b4]
 have d3:apn 30 au.d3 ([C.i (j:Nat)]++e.e++[.b false,.b f.pack,.l [],.l [],.l [],.l (f.bts.map Bt.e),.l (f.svs.map Sv.e),.l (f.cps.map Cp.e)])=some (.ret (mM ({f with bts:=lR Bt.name e.b f.bts},true))):=by
  have hb1:(j:Int)≤(f.bts.length:Int):=by omega
  have hdl:(f.bts.map Bt.e).drop j=(f.bts.drop j).map Bt.e:=(List.map_drop).symm
  have e0:((f.bts.map Bt.e).take f.bts.length).drop j=(f.bts.drop j).map Bt.e:=by
   rw[List.take_of_length_le (by rw[jW];omega),hdl]
  cases hd:f.bts.drop j with
  |nil=>
   rw[hd] at e0
   rw[←d2 [] (by simp only[pO,←hjk,hd,List.map_nil])]
   simp only[Evn.e,Bt.e,Cp.e,jA,jB,apL,jC,jD,au.d3,C.I_i,C.L_l,C.S_s,jW,jX,decide_true,jR,hb1,Int.le_refl,jY,e0,List.map_nil,List.length_nil,jJ]
   rfl
  |cons y r=>
   rw[hd] at e0
   have t1:(((r.length+1:Nat):Int))>0:=by omega
   have t2:(0:Int)<((r.length+1:Nat):Int):=by omega
   have t3:(1:Int)≤((r.length+1:Nat):Int):=by omega
   have e0':=e0
   simp only[List.map_cons] at e0'
   have y0:(y.e).getD 0 .nil=.s y.name:=rfl
   cases hq:sEq y.name e.b.name with
   |true=>
    rw[←d2 (r.map Bt.e) (by simp only[pO,←hjk,hd,hq,jR])]
    have e2:(y.name.toList==e.b.name.toList)=true:=hq
    simp only[Evn.e,Cp.e,Bt.e,jA,jB,apL,jC,jD,au.d3,C.I_i,C.L_l,C.S_s,jW,jX,decide_true,jR,hb1,Int.le_refl,e0',List.length_cons,e2,jJ,t1,t2,t3,jY,List.take_succ_cons,List.drop_succ_cons,List.drop_zero]
    rw[List.take_of_length_le (by rw[jW];exact Nat.le_refl _)]
   |false=>
    rw[←d2 ((y::r).map Bt.e) (by simp only[pO,←hjk,hd,hq,jS])]
    have e2:(y.name.toList==e.b.name.toList)=false:=hq
    simp only[Evn.e,Cp.e,Bt.e,jA,jB,apL,jC,jD,au.d3,C.I_i,C.L_l,C.S_s,jW,jX,decide_true,jR,jS,hb1,Int.le_refl,jY,e0',List.length_cons,e2,jJ,t1,t2,List.map_cons]
 have hL':=hL
 simp only[au,mM,Fl.e,Evn.e,Bt.e,Cp.e,jA,jB] at hF hL' d3⊢
 simp only[au.d9,apL,jC,jD,hF,call4,jI,C.I_i,C.L_l,aB,hk]
 simp only[hk,Int.natCast_zero] at hL' d3
 simp only[show ((1:Int)==1)=true from rfl,jR]
 erw[hL']
 simp only[dB,d3]
 rfl
end
end Go.Ev
namespace Go.Ev
theorem Cr {α:Type} (E:α→List C) {l:List α} {k K:Nat} (hk:k<l.length) (hl:l.length≤K) (hK:K≤1048576:=by omega):
  decide ((k:Int)≤((l.map E).length:Int))=true∧decide (([]:List (List C)).length+(List.drop 0 (List.take (k:Int).toNat (l.map E))).length≤4294967296)=true∧w64 ((k:Int)+1)=((k+1:Nat):Int)∧decide (((k+1:Nat):Int)≤((l.map E).length:Int))=true∧
  ([]++List.drop 0 (List.take (k:Int).toNat (l.map E)))++List.drop ((k+1:Nat):Int).toNat (List.take ((l.map E).length:Int).toNat (l.map E))=(l.take k++l.drop (k+1)).map E∧
  decide (([]++List.drop 0 (List.take (k:Int).toNat (l.map E))).length+(List.drop ((k+1:Nat):Int).toNat (List.take ((l.map E).length:Int).toNat (l.map E))).length≤4294967296)=true:=by
 have h1:([]++List.drop 0 (List.take (k:Int).toNat (l.map E)))++List.drop ((k+1:Nat):Int).toNat (List.take ((l.map E).length:Int).toNat (l.map E))=(l.take k++l.drop (k+1)).map E:=by
  rw[jY,jY,jY,List.take_length,List.map_append,List.map_take,List.map_drop]
  rfl
 have h2:=congrArg List.length h1
 rw[List.length_append] at h2
 refine ⟨by simp;omega,by simp;omega,w1 hk (by omega),by simp;omega,h1,?_⟩
 rw[h2]
 simp
 omega
section
variable {f:Fl} (hz:f.Sz 1048576) (hv:dz f=true)
include hz hv
theorem Ig {e:Evn} (he:e.Sz 1048576) (hk:e.kd=3):au (f.e++e.e)=some (mM ({f with cps:=lR Cp.name e.c f.cps},true)):=by
 have hF:=iM hz
 have hbo:=rO he.2.1.2.2.2.2.2.2.1
 have h1000:f.cps.length≤1048576:=hz.2.2.1
 have hlc:f.cps.length<big:=by simp only[big];omega
 have hL:=zF (l:=f.cps) (fun y=>sLt y.name e.c.name) (b:=5) (body:=apn 30 au.d6) (S:=fun i=>[C.i (i:Nat)]++e.e++[.b false,.b f.pack,.l [],.l [],.l [],.l (f.bts.map Bt.e),.l (f.svs.map Sv.e),.l (f.cps.map Cp.e)])
  (fun i hi=>by
   simp only[Evn.e,Bt.e,Cp.e,jA,jB,apL,jC,jD,au.d6,C.I_i,C.L_l,C.S_s,jW,jY,ltL hi,decide_true,jR,jX,w1 hi hlc]
   rw[getD_map' Cp.e hi]
   simp only[Cp.e,jC,C.S_s]
   rw[show Op.bytesLess f.cps[i].name.toList e.c.name.toList=sLt f.cps[i].name e.c.name from rfl]
   cases sLt f.cps[i].name e.c.name<;>simp)
  (by simp[Evn.e,Bt.e,Cp.e,au.d6])
  f.cps.length 0 (by omega)
 rw[Nat.zero_add,List.drop_zero] at hL
 generalize hj:(f.cps.takeWhile fun y=>sLt y.name e.c.name).length=j at hL
 have hjk:j=jc Cp.name e.c f.cps:=hj.symm
 have hjl:j≤f.cps.length:=by rw[hjk];exact Ak _ _ _
 have hmp:=AW Cp.name e.c Cp.e f.cps hjk
 have hTl:=xZ Cp.name e.c f.cps
 rw[←hjk] at hTl
 have d2:∀r:List (List C),r=(pO Cp.name e.c f.cps).map Cp.e→apn 31 au.d7 ([C.i (j:Nat),.l r]++e.e++[.b false,.b f.pack,.l (f.cps.map Cp.e),.l [],.l [],.l [],.l (f.bts.map Bt.e),.l (f.svs.map Sv.e)])=some (.ret (mM ({f with cps:=lR Cp.name e.c f.cps},true))):=fun r hr=>by
  subst hr
  have b1:(j:Int)≤(f.cps.length:Int):=by omega
  have b2:min j f.cps.length≤4294967296:=by omega
  have b3:min j f.cps.length+1≤4294967296:=by omega
  have b4:min j f.cps.length+1+(pO Cp.name e.c f.cps).length≤4294967296:=by omega
  simp only[mM,hmp]
  simp only[Cp.e,Cp.o] at hbo
  simp only[Evn.e,Bt.e,Cp.e,jA,jB,apL,jC,jD,au.d7,C.I_i,C.L_l,jW,jY,jX,decide_true,jR,hbo,call12,jI,b1,List.drop_zero,aB,List.length_take,b2,Nat.zero_add,List.length_nil,List.length_append,rows,List.length_cons,b3,b4]
 have d3:apn 30 au.d8 ([C.i (j:Nat)]++e.e++[.b false,.b f.pack,.l [],.l [],.l [],.l (f.bts.map Bt.e),.l (f.svs.map Sv.e),.l (f.cps.map Cp.e)])=some (.ret (mM ({f with cps:=lR Cp.name e.c f.cps},true))):=by
  have hb1:(j:Int)≤(f.cps.length:Int):=by omega
  have hdl:(f.cps.map Cp.e).drop j=(f.cps.drop j).map Cp.e:=(List.map_drop).symm
  have e0:((f.cps.map Cp.e).take f.cps.length).drop j=(f.cps.drop j).map Cp.e:=by
   rw[List.take_of_length_le (by rw[jW];omega),hdl]
  cases hd:f.cps.drop j with
  |nil=>
   rw[hd] at e0
   rw[←d2 [] (by simp only[pO,←hjk,hd,List.map_nil])]
   simp only[Evn.e,Bt.e,Cp.e,jA,jB,apL,jC,jD,au.d8,C.I_i,C.L_l,C.S_s,jW,jX,decide_true,jR,hb1,Int.le_refl,jY,e0,List.map_nil,List.length_nil,jJ]
   rfl
  |cons y r=>
   rw[hd] at e0
   have t1:(((r.length+1:Nat):Int))>0:=by omega
   have t2:(0:Int)<((r.length+1:Nat):Int):=by omega
   have t3:(1:Int)≤((r.length+1:Nat):Int):=by omega
   have e0':=e0
   simp only[List.map_cons] at e0'
   have y0:(y.e).getD 0 .nil=.s y.name:=rfl
   cases hq:sEq y.name e.c.name with
   |true=>
    rw[←d2 (r.map Cp.e) (by simp only[pO,←hjk,hd,hq,jR])]
    have e2:(y.name.toList==e.c.name.toList)=true:=hq
    simp only[Evn.e,Bt.e,Cp.e,jA,jB,apL,jC,jD,au.d8,C.I_i,C.L_l,C.S_s,jW,jX,decide_true,jR,hb1,Int.le_refl,e0',List.length_cons,e2,jJ,t1,t2,t3,jY,List.take_succ_cons,List.drop_succ_cons,List.drop_zero]
    rw[List.take_of_length_le (by rw[jW];exact Nat.le_refl _)]
   |false=>
    rw[←d2 ((y::r).map Cp.e) (by simp only[pO,←hjk,hd,hq,jS])]
    have e2:(y.name.toList==e.c.name.toList)=false:=hq
    simp only[Evn.e,Bt.e,Cp.e,jA,jB,apL,jC,jD,au.d8,C.I_i,C.L_l,C.S_s,jW,jX,decide_true,jR,jS,hb1,Int.le_refl,jY,e0',List.length_cons,e2,jJ,t1,t2,List.map_cons]
 have hL':=hL
 simp only[au,mM,Fl.e,Evn.e,Bt.e,Cp.e,jA,jB] at hF hL' d3⊢
 simp only[au.d9,apL,jC,jD,hF,call4,jI,C.I_i,C.L_l,aB,hk]
 simp only[hk,Int.natCast_zero] at hL' d3
 simp only[show ((3:Int)==1)=false from rfl,show ((3:Int)==2)=false from rfl,show ((3:Int)==3)=true from rfl,jS,jR]
 erw[hL']
 simp only[dB,d3]
 rfl
theorem HJ {e:Evn} (hk:e.kd=2):au (f.e++e.e)=some (mM (eo f e)):=by
 have hF:=iM hz
 have hB:=mc f e.nm hz.1.1
 have h1000:f.bts.length≤1048576:=hz.1.1
 have hlc:f.cps.length<big:=by have:=hz.2.2.1;simp only[big];omega
 have hH:eo f e=bif decide (bIx f e.nm<0) then (f,false) else ({f with bts:=f.bts.take (bIx f e.nm).toNat++f.bts.drop ((bIx f e.nm).toNat+1),cps:=f.cps.map (lz e.nm)},true):=by
  simp only[eo,hk];rfl
 rw[hH]
 rcases Cb f e.nm with h|⟨k,hkl,h,-⟩
 ·simp only[h,decide_true,jR]
  simp only[au,mM,Fl.e,Evn.e,Bt.e,Cp.e,jA,jB] at hF hB⊢
  simp only[au.d9,apL,jC,jD,hF,hB,aa,call4,jI,C.I_i,C.L_l,aB,hk,h,decide_true,jR]
  rfl
 ·have hL:=im (n:=f.cps.length) (b:=3) (ys:=[.b false,.b f.pack,.l [],.l [],.l [],.l ((f.bts.take k++f.bts.drop (k+1)).map Bt.e),.l (f.svs.map Sv.e),.l ((f.cps.map (lz e.nm)).map Cp.e)]) (body:=apn 30 au.d4) (S:=fun i=>[C.i (i:Nat)]++e.e++[.b false,.b f.pack,.l [],.l [],.l [],.l ((f.bts.take k++f.bts.drop (k+1)).map Bt.e),.l (f.svs.map Sv.e),.l ((nN (lz e.nm) f.cps i).map Cp.e)])
   (fun i hi=>by
    have hu:=qf (lz e.nm) f.cps i
    have hi':i<(nN (lz e.nm) f.cps i).length:=by omega
    have hg:(nN (lz e.nm) f.cps i)[i]=f.cps[i]:=by
     have:=ym (lz e.nm) hi
     rw[List.getElem?_eq_getElem hi'] at this
     exact Option.some.inj this
    have hm:(nN (lz e.nm) f.cps i).map Cp.e=(nN (lz e.nm) f.cps i).map Cp.e:=rfl
    have g0:=getD_map' Cp.e hi'
    rw[hg] at g0
    have g1:(f.cps[i].e).getD 11 .nil=.s f.cps[i].at_:=rfl
    have g2:ar f.cps[i].e 11 [.s (bs #[])]=({f.cps[i] with at_:=mkS []}:Cp).e:=by rw[eS];rfl
    have hS:=yg (lz e.nm) hi
    have hM:=zr (lz e.nm) hi
    simp only[Evn.e_l,jA,jB,apL,jC,jD,au.d4,C.I_i,C.L_l,C.S_s,jW,hu,jY,ltL hi,decide_true,jR,jX,w1 hi hlc,g0,g1,g2]
    cases hq:sEq f.cps[i].at_ e.nm with
    |true=>
     have e2:(f.cps[i].at_.toList==e.nm.toList)=true:=hq
     simp only[e2,jR]
     rw[←hS,List.map_set]
     simp only[lz,hq,jR]
    |false=>
     have e2:(f.cps[i].at_.toList==e.nm.toList)=false:=hq
     simp only[e2,jS]
     rw[hM (by simp only[lz,hq,jS])])
   (by simp[Evn.e,Bt.e,Cp.e,au.d4,qf,Bv]) f.cps.length 0 (by omega)
  have hb3:¬((k:Nat):Int)<0:=by omega
  obtain ⟨q1,q2,q3,q4,q5,q6⟩:=Cr Bt.e (K:=1048576) hkl hz.1.1
  simp only[h,hb3,decide_false,jS,jY]
  simp only[au,mM,Fl.e,Evn.e,Bt.e,Cp.e,jA,jB] at hF hB hL⊢
  simp only[au.d9,apL,jC,jD,hF,hB,aa,call4,jI,C.I_i,C.L_l,aB,hk,h,hb3,decide_false,jS]
  simp only[show ((2:Int)==1)=false from rfl,show ((2:Int)==2)=true from rfl,jS,jR,q1,q2,q3,q4,q5,q6,Int.le_refl,decide_true,jX]
  simp only[hk,nN,List.take_zero,List.map_nil,List.drop_zero,jB,Int.natCast_zero] at hL
  erw[hL]
  rfl
theorem HP {e:Evn} (hk:e.kd=4):au (f.e++e.e)=some (mM (eo f e)):=by
 have hF:=iM hz
 have hB:=vH f e.nm hz.2.2.1
 have hH:eo f e=bif decide (cIx f e.nm<0) then (f,false) else ({f with cps:=f.cps.take (cIx f e.nm).toNat++f.cps.drop ((cIx f e.nm).toNat+1)},true):=by
  simp only[eo,hk];rfl
 rw[hH]
 rcases uZ f e.nm with h|⟨k,hkl,h,-⟩
 ·simp only[h,decide_true,jR]
  simp only[au,mM,Fl.e,Evn.e_l,jA,jB] at hF hB⊢
  simp only[au.d9,apL,jC,jD,hF,hB,aa,call4,jI,C.I_i,C.L_l,aB,hk,h,decide_true,jR]
  rfl
 ·have hb3:¬((k:Nat):Int)<0:=by omega
  obtain ⟨q1,q2,q3,q4,q5,q6⟩:=Cr Cp.e (K:=1048576) hkl hz.2.2.1
  simp only[h,hb3,decide_false,jS,jY]
  simp only[au,mM,Fl.e,Evn.e_l,jA,jB] at hF hB⊢
  simp only[au.d9,apL,jC,jD,hF,hB,aa,call4,jI,C.I_i,C.L_l,aB,hk,h,hb3,decide_false,jS]
  simp only[show ((4:Int)==1)=false from rfl,show ((4:Int)==2)=false from rfl,show ((4:Int)==3)=false from rfl,show ((4:Int)==4)=true from rfl,jS,jR,q1,q2,q3,q4,q5,q6,Int.le_refl,decide_true,jX]
  rfl
theorem Ie {e:Evn} (hk:e.kd=5):au (f.e++e.e)=some (mM (eo f e)):=by
 have hF:=iM hz
 have hB:=vH f e.nm hz.2.2.1
 have hA:=mc f e.at_ hz.1.1
 have hH:eo f e=bif decide (cIx f e.nm<0)||(!sEq e.at_ (mkS [])&&decide (bIx f e.at_<0)) then (f,false) else (match f.cps[(cIx f e.nm).toNat]? with|some c=>({f with cps:=f.cps.set (cIx f e.nm).toNat {c with at_:=e.at_}},true)|none=>(f,false)):=by
  simp only[eo,hk];rfl
 have n5:((5:Int)==1)=false∧((5:Int)==2)=false∧((5:Int)==3)=false∧((5:Int)==4)=false∧((5:Int)==5)=true:=⟨rfl,rfl,rfl,rfl,rfl⟩
 rw[hH]
 rcases uZ f e.nm with h|⟨k,hkl,h,-⟩
 ·simp only[h,decide_true,jR,Bool.true_or]
  simp only[au,mM,Fl.e,Evn.e_l,jA,jB] at hF hB⊢
  simp only[au.d9,apL,jC,jD,hF,hB,aa,call4,jI,C.I_i,C.L_l,aB,hk,h,decide_true,jR,n5,jS,jZ]
  rfl
 ·have hb3:¬((k:Nat):Int)<0:=by omega
  have q1:decide ((k:Int)<((f.cps.map Cp.e).length:Int))=true:=by simp;omega
  have g0:=getD_map' Cp.e hkl
  have g2:ar f.cps[k].e 11 [.s e.at_]=({f.cps[k] with at_:=e.at_}:Cp).e:=rfl
  have hst:(f.cps.map Cp.e).set k ({f.cps[k] with at_:=e.at_}:Cp).e=(f.cps.set k {f.cps[k] with at_:=e.at_}).map Cp.e:=(List.map_set).symm
  have hbn:(bs #[]).toList=(mkS []).toList:=rfl
  simp only[h,hb3,decide_false,Bool.false_or,jY,List.getElem?_eq_getElem hkl]
  simp only[au,mM,Fl.e,Evn.e_l,jA,jB] at hF hB hA⊢
  simp only[au.d9,apL,jC,jD,hF,hB,hA,aa,call4,jI,C.I_i,C.L_l,C.S_s,aB,hk,h,hb3,n5,decide_false,jS,jR,ja,hbn,q1,jY,g0,g2,hst,jX,decide_true]
  rw[show (e.at_.toList==(mkS []).toList)=sEq e.at_ (mkS []) from rfl]
  cases sEq e.at_ (mkS [])<;>cases decide (bIx f e.at_<0)<;>rfl
theorem HX {e:Evn} (hk:¬e.kd=1∧¬e.kd=2∧¬e.kd=3∧¬e.kd=4∧¬e.kd=5):au (f.e++e.e)=some (mM (eo f e)):=by
 have hF:=iM hz
 have n5:(e.kd==1)=false∧(e.kd==2)=false∧(e.kd==3)=false∧(e.kd==4)=false∧(e.kd==5)=false:=by simp only[beq_eq_false_iff_ne];exact hk
 have hH:eo f e=(f,true):=by simp only[eo,n5,jS]
 rw[hH]
 simp only[au,mM,Fl.e,Evn.e_l,jA,jB] at hF⊢
 simp only[au.d9,apL,jC,jD,hF,aa,call4,jI,C.I_i,C.L_l,aB,n5,jS]
 rfl
theorem zK {e:Evn} (he:e.Sz 1048576):au (f.e++e.e)=some (mM (eo f e)):=by
 by_cases h1:e.kd=1
 ·rw[HH hz hv he h1,show eo f e=({f with bts:=lR Bt.name e.b f.bts},true) by simp only[eo,h1];rfl]
 by_cases h2:e.kd=2
 ·exact HJ hz hv h2
 by_cases h3:e.kd=3
 ·rw[Ig hz hv he h3,show eo f e=({f with cps:=lR Cp.name e.c f.cps},true) by simp only[eo,h3];rfl]
 by_cases h4:e.kd=4
 ·exact HP hz hv h4
 by_cases h5:e.kd=5
 ·exact Ie hz hv h5
 exact HX hz hv ⟨h1,h2,h3,h4,h5⟩
end
theorem o8 {f:Fl} (hz:f.Sz 1048576) (hv:dz f=true) {e:Evn} (he:e.Sz 1048576):(eo f e).1.Sz 1048576:=by
 have hn:f.bts.length≤12∧f.svs.length≤30∧f.cps.length≤60:=by
  simp only[dz,Bool.and_eq_true,decide_eq_true_eq] at hv
  exact ⟨hv.1,hv.2.1,hv.2.2.1⟩
 have hc:∀(l:List Cp),l.length≤61→(∀c,c∈l→c.Sz 1048576)→({f with cps:=l}:Fl).Sz 1048576:=fun l h1 h2=>⟨hz.1,hz.2.1,by simp only;omega,h2⟩
 have hset:∀(s:Str),s.size≤1048576→∀c:Cp,c.Sz 1048576→({c with at_:=s}:Cp).Sz 1048576:=fun s hs c h=>⟨h.1,h.2.1,h.2.2.1,h.2.2.2.1,h.2.2.2.2.1,hs,h.2.2.2.2.2.2⟩
 unfold eo
 cases e.kd==1 with
 |true=>
  refine ⟨⟨?_,fun b hb=>?_⟩,hz.2⟩
  ·have:=AM Bt.name e.b f.bts;simp only[jR];omega
  ·rcases A5 Bt.name e.b f.bts b hb with h|rfl
   ·exact hz.1.2 b h
   ·exact he.1
 |false=>
 cases e.kd==2 with
 |true=>
  simp only[jR,jS]
  cases decide (bIx f e.nm<0) with
  |true=>exact hz
  |false=>
   refine ⟨⟨?_,fun b hb=>?_⟩,hz.2.1,?_,fun c hc=>?_⟩
   ·simp only[jS,List.length_append,List.length_take,List.length_drop];omega
   ·simp only[jS,List.mem_append] at hb
    exact hz.1.2 b (hb.elim List.mem_of_mem_take List.mem_of_mem_drop)
   ·simp only[jS,jW];omega
   ·simp only[jS,List.mem_map] at hc
    obtain ⟨x,hx,rfl⟩:=hc
    unfold lz
    cases sEq x.at_ e.nm
    ·exact hz.2.2.2 x hx
    ·exact hset _ (by decide) x (hz.2.2.2 x hx)
 |false=>
 cases e.kd==3 with
 |true=>
  refine hc _ ?_ fun c hx=>?_
  ·have:=AM Cp.name e.c f.cps;omega
  ·rcases A5 Cp.name e.c f.cps c hx with h|rfl
   ·exact hz.2.2.2 c h
   ·exact he.2.1
 |false=>
 cases e.kd==4 with
 |true=>
  simp only[jR,jS]
  cases decide (cIx f e.nm<0) with
  |true=>exact hz
  |false=>
   refine hc _ ?_ fun c hx=>?_
   ·simp only[List.length_append,List.length_take,List.length_drop];omega
   ·simp only[List.mem_append] at hx
    exact hz.2.2.2 c (hx.elim List.mem_of_mem_take List.mem_of_mem_drop)
 |false=>
 cases e.kd==5 with
 |true=>
  simp only[jR,jS]
  cases decide (cIx f e.nm<0)||(!sEq e.at_ (mkS [])&&decide (bIx f e.at_<0)) with
  |true=>exact hz
  |false=>
   simp only[jS]
   split
   ·rename_i c hc'
    refine hc _ (by rw[List.length_set];omega) fun x hx=>?_
    rcases List.mem_or_eq_of_mem_set hx with h|rfl
    ·exact hz.2.2.2 x h
    ·exact hset _ he.2.2.2 c (hz.2.2.2 c (List.mem_of_getElem? hc'))
   ·exact hz
 |false=>exact hz
theorem uG {f:Fl} (hz:f.Sz 1048576) {e:Evn} (he:e.Sz 1048576):cR (f.e++e.e)=some (yC (B4 f e)):=by
 have hV:=pF hz
 unfold B4
 cases hv:dz f with
 |false=>
  rw[hv] at hV
  simp only[cR,Fl.e,Evn.e_l,jA,jB] at hV⊢
  simp only[cR.d2,apL,jC,jD,hV,aa,jI,C.B_b,ja,jR]
  rfl
 |true=>
  have hE:=zK hz hv he
  have hV':=pF (o8 hz hv he)
  have hI:=gq e.kd 1 5
  rw[hv] at hV
  generalize eo f e=q at hE hV'⊢
  obtain ⟨g,d⟩:=q
  simp only[cR,mM,Fl.e,Evn.e_l,jA,jB] at hV hE hV'⊢
  simp only[cR.d2,cR.d1,apL,jC,jD,hV,hE,hV',hI,aa,call5,jI,C.B_b,C.L_l,jZ,jS,Bool.true_and]
  cases d with
  |false=>rfl
  |true=>
   cases hg:dz g with
   |false=>rfl
   |true=>
    simp only[jZ,jR,jS,jJ,apL,jC,jD,cR.d1,hI,aa,jI,C.B_b,C.L_l,Bool.and_false]
    cases within e.kd 1 5<;>rfl
end Go.Ev
namespace Go.Ev
theorem wo {α:Type} (E:α→List C) {l:List α} (x:α) {i:Nat} (hi:i≤l.length) (hl:l.length≤1048576):vB [.i (i:Int),.l (l.map E),.l [E x]]=some [.l ((l.take i++[x]++l.drop i).map E)]:=by
 have h1:((i:Int)≤((l.map E).length:Int)):=by rw[jW];omega
 have h2:(l.map E).length+1≤4294967296:=by rw[jW];omega
 simp only[vB,jC,jD,C.I_i,C.L_l,jX,decide_true,h1,h2,List.length_singleton,beq_self_eq_true,Bool.true_and,jR,jY,List.map_append,List.map_take,List.map_drop,List.map_cons,List.map_nil]
theorem Bu {α:Type} (E:α→List C) {l:List α} {i:Nat} (hi:i<l.length) (hl:l.length≤1048576):vM [.i (i:Int),.i (w64 ((i:Int)+1)),.l (l.map E)]=some [.l ((l.take i++l.drop (i+1)).map E)]:=by
 have h1:((i:Int)<((l.map E).length:Int)):=by rw[jW];omega
 have h2:w64 ((i:Int)+1)=(i:Int)+1:=by rw[w1 hi (by omega)];rfl
 simp only[vM,jC,jD,C.I_i,C.L_l,jX,decide_true,h1,h2,Bool.true_and,jR,jY,List.map_append,List.map_take,List.map_drop]
theorem zA {α:Type} (p:α→Bool) {l:List α} {n:Nat} (h:dX p l n<0):∀i (hi:i<l.length),p l[i]=false:=fun i hi=>by
 have:=sb p l n h
 rw[List.any_eq_false] at this
 have:=this _ (List.getElem_mem hi)
 simpa using this
def vY (g:Fl):Fl×Int:=bif !dz g then (fl0,2) else (g,0)
theorem lU (g:Fl):ba (bif !dz g then some (Out.ret [.b false,.i 2,.l [],.l [],.l []]) else some (.ret [.b g.pack,.i 0,.l (g.bts.map Bt.e),.l (g.svs.map Sv.e),.l (g.cps.map Cp.e)]))=some (yC (vY g)):=by
 unfold vY;cases dz g<;>rfl
section
variable {f:Fl} (hz:f.Sz 1048576) (hv:dz f=true)
include hz
theorem Ib (b:Bt):aw [.l (f.bts.map Bt.e),.p b.e]=some [.i (dX (gtP Bt.name b) f.bts 0)]:=by
 have hl:f.bts.length≤1048576:=hz.1.1
 have h:=jy (l:=f.bts) (body:=apn 4 aw.d1) (S:=fun i=>[.l (f.bts.map Bt.e),.p b.e,.i (f.bts.length:Nat),.i (i:Nat)]) (p:=gtP Bt.name b) (b:=0)
  (fun i hi=>by
   simp only[apL,jC,jD,aw.d1,C.I_i,C.L_l,C.S_s,jW,jY,getD_map' Bt.e hi,w1 hi (show f.bts.length<big by simp only[big];omega)]
   simp only[Bt.e,jC,jD,ft,ft.d1,apL,C.S_s,C.vU,C.P_p,jR,jV,aa,jI,C.B_b,ltL hi,jX,decide_true]
   rfl)
  (by simp[aw.d1]) f.bts.length 0 rfl
 simp only[aw,aw.d3,apL,jC,jD,C.L_l,jW]
 rw[show (fun xs:List C=>aw.d2)=fun _=>some (.ret [.i (-1)]) from rfl]
 erw[h]
 rfl
theorem Hn (b:Cp):ay [.l (f.cps.map Cp.e),.p b.e]=some [.i (dX (gtP Cp.name b) f.cps 0)]:=by
 have hl:f.cps.length≤1048576:=hz.2.2.1
 have h:=jy (l:=f.cps) (body:=apn 4 ay.d1) (S:=fun i=>[.l (f.cps.map Cp.e),.p b.e,.i (f.cps.length:Nat),.i (i:Nat)]) (p:=gtP Cp.name b) (b:=0)
  (fun i hi=>by
   simp only[apL,jC,jD,ay.d1,C.I_i,C.L_l,C.S_s,jW,jY,getD_map' Cp.e hi,w1 hi (show f.cps.length<big by simp only[big];omega)]
   simp only[Cp.e,jC,jD,fu,fu.d1,apL,C.S_s,C.vU,C.P_p,jR,jV,aa,jI,C.B_b,ltL hi,jX,decide_true]
   rfl)
  (by simp[ay.d1]) f.cps.length 0 rfl
 simp only[ay,ay.d3,apL,jC,jD,C.L_l,jW]
 rw[show (fun xs:List C=>ay.d2)=fun _=>some (.ret [.i (-1)]) from rfl]
 erw[h]
 rfl
include hv
theorem HF {e:Evn} (he:e.Sz 1048576) (hk:e.kd=1):aj (f.e++e.e)=some (yC (vY (eo f e).1)):=by
 have hV:=cA hz
 have hC:=jz hz
 have hB:=nZ he.1.2.2.1
 have hA:=jg f e.b.name hz.1.1
 have hs:∀(i j:Nat) (hi:i<f.bts.length) (hj:j<f.bts.length),i<j→sLt f.bts[i].name f.bts[j].name=true:=fun i j hi hj hlt=>by
  obtain ⟨d,rfl⟩:∃d,j=i+d+1:=⟨j-i-1,by omega⟩
  exact DK hv d i hj
 have hR:=cA (o8 hz hv he)
 rw[show eo f e=({f with bts:=lR Bt.name e.b f.bts},true) by simp only[eo,hk];rfl] at hR⊢
 rw[hv] at hV
 simp only[Fl.e,Bt.e,Bt.o,jA,jB] at hV hC hB hA hR
 have n1:((1:Int)==1)=true:=rfl
 rcases Cb f e.b.name with h|⟨k,hkl,h,hq⟩
 ·have hI:=Ib hz e.b
  have h3:¬(bIx f e.b.name≥0):=by omega
  simp only[Bt.e] at hI
  rcases C0 Bt.name e.b hs (zA _ h) with ⟨hj,hp⟩|⟨j,hjl,hj,hp⟩
  ·have hN:=wo Bt.e (l:=f.bts) e.b (Nat.le_refl _) hz.1.1
   rw[List.take_length,List.drop_length,List.append_nil,←hp] at hN
   simp only[Bt.e] at hN
   rw[←lU]
   simp only[aj,Fl.e,Evn.e_l,jA,jB]
   simp only[aj.d3,apL,jC,jD,hV,hC,hB,hA,hI,hj,h3,aa,call4,call6,jI,C.B_b,C.I_i,C.L_l,aB,hk,n1,decide_true,decide_false,jR,jS,jZ,jW,dM,rows,hN,hR]
  ·have hN:=wo Bt.e (l:=f.bts) e.b (i:=j) (by omega) hz.1.1
   rw[←hp] at hN
   have h4:¬((j:Nat):Int)<0:=by omega
   simp only[Bt.e] at hN
   rw[←lU]
   simp only[aj,Fl.e,Evn.e_l,jA,jB]
   simp only[aj.d3,apL,jC,jD,hV,hC,hB,hA,hI,hj,h3,h4,aa,call4,call6,jI,C.B_b,C.I_i,C.L_l,aB,hk,n1,decide_true,decide_false,jR,jS,jZ,jW,dM,rows,hN,hR]
 ·have hp:=CO Bt.name e.b hs hkl hq
  rw[hp] at hR⊢
  have g0:=getD_map' Bt.e hkl
  have g2:ar f.bts[k].e 0 [.s e.b.name,.s e.b.zone,.l (e.b.marks.map sE),.i e.b.room,.i e.b.hold,.b e.b.shut]=e.b.e:=rfl
  have hst:(f.bts.map Bt.e).set k e.b.e=(f.bts.set k e.b).map Bt.e:=(List.map_set).symm
  have h3:((k:Nat):Int)≥0:=by omega
  rw[←lU]
  simp only[aj,Fl.e,Evn.e_l,jA,jB]
  simp only[aj.d3,apL,jC,jD,hV,hC,hB,hA,h,h3,aa,call4,call6,jI,C.B_b,C.I_i,C.L_l,aB,hk,n1,decide_true,decide_false,jR,jS,jZ,jW,jX,ltL hkl,jY,g0,g2,hst,hR]
theorem HE {e:Evn} (he:e.Sz 1048576) (hk:e.kd=3):aj (f.e++e.e)=some (yC (vY (eo f e).1)):=by
 have hV:=cA hz
 have hC:=jz hz
 have hB:=pG he.2.1.2.2.2.2.2.2.1
 have hA:=pv f e.c.name hz.2.2.1
 have hs:∀(i j:Nat) (hi:i<f.cps.length) (hj:j<f.cps.length),i<j→sLt f.cps[i].name f.cps[j].name=true:=fun i j hi hj hlt=>by
  obtain ⟨d,rfl⟩:∃d,j=i+d+1:=⟨j-i-1,by omega⟩
  exact E1 hv d i hj
 have hR:=cA (o8 hz hv he)
 rw[show eo f e=({f with cps:=lR Cp.name e.c f.cps},true) by simp only[eo,hk];rfl] at hR⊢
 rw[hv] at hV
 simp only[Fl.e,Cp.e,Cp.o,jA,jB] at hV hC hB hA hR
 have n1:((3:Int)==1)=false∧((3:Int)==2)=false∧((3:Int)==3)=true:=⟨rfl,rfl,rfl⟩
 rcases uZ f e.c.name with h|⟨k,hkl,h,hq⟩
 ·have hI:=Hn hz e.c
  have h3:¬(cIx f e.c.name≥0):=by omega
  simp only[Cp.e] at hI
  rcases C0 Cp.name e.c hs (zA _ h) with ⟨hj,hp⟩|⟨j,hjl,hj,hp⟩
  ·have hN:=wo Cp.e (l:=f.cps) e.c (Nat.le_refl _) hz.2.2.1
   rw[List.take_length,List.drop_length,List.append_nil,←hp] at hN
   simp only[Cp.e] at hN
   rw[←lU]
   simp only[aj,Fl.e,Evn.e_l,jA,jB]
   simp only[aj.d3,apL,jC,jD,hV,hC,hB,hA,hI,hj,h3,aa,call4,call12,jI,C.B_b,C.I_i,C.L_l,aB,hk,n1,decide_true,decide_false,jR,jS,jZ,jW,dU,rows,hN,hR]
  ·have hN:=wo Cp.e (l:=f.cps) e.c (i:=j) (by omega) hz.2.2.1
   rw[←hp] at hN
   have h4:¬((j:Nat):Int)<0:=by omega
   simp only[Cp.e] at hN
   rw[←lU]
   simp only[aj,Fl.e,Evn.e_l,jA,jB]
   simp only[aj.d3,apL,jC,jD,hV,hC,hB,hA,hI,hj,h3,h4,aa,call4,call12,jI,C.B_b,C.I_i,C.L_l,aB,hk,n1,decide_true,decide_false,jR,jS,jZ,jW,dU,rows,hN,hR]
 ·have hp:=CO Cp.name e.c hs hkl hq
  rw[hp] at hR⊢
  have g0:=getD_map' Cp.e hkl
  have g2:ar f.cps[k].e 0 [.s e.c.name,.s e.c.svc,.i e.c.rank,.i e.c.born,.i e.c.room,.i e.c.hold,.s e.c.sel,.l (e.c.likes.map Lk.e),.i e.c.apart,.s e.c.near,.s e.c.fixed,.s e.c.at_]=e.c.e:=rfl
  have hst:(f.cps.map Cp.e).set k e.c.e=(f.cps.set k e.c).map Cp.e:=(List.map_set).symm
  have h3:((k:Nat):Int)≥0:=by omega
  rw[←lU]
  simp only[aj,Fl.e,Evn.e_l,jA,jB]
  simp only[aj.d3,apL,jC,jD,hV,hC,hB,hA,h,h3,aa,call4,call12,jI,C.B_b,C.I_i,C.L_l,aB,hk,n1,decide_true,decide_false,jR,jS,jZ,jW,jX,ltL hkl,jY,g0,g2,hst,hR]
theorem HV {e:Evn} (he:e.Sz 1048576) (hk:e.kd=2):aj (f.e++e.e)=some (yC (bif (eo f e).2 then vY (eo f e).1 else (fl0,3))):=by
 have hV:=cA hz
 have hC:=jz hz
 have hA:=jg f e.nm hz.1.1
 have hlc:f.cps.length<big:=by have:=hz.2.2.1;simp only[big];omega
 have hR:=cA (o8 hz hv he)
 have hH:eo f e=bif decide (bIx f e.nm<0) then (f,false) else ({f with bts:=f.bts.take (bIx f e.nm).toNat++f.bts.drop ((bIx f e.nm).toNat+1),cps:=f.cps.map (lz e.nm)},true):=by
  simp only[eo,hk];rfl
 rw[hH] at hR⊢
 rw[hv] at hV
 have n1:((2:Int)==1)=false∧((2:Int)==2)=true:=⟨rfl,rfl⟩
 rcases Cb f e.nm with h|⟨k,hkl,h,-⟩
 ·simp only[h,decide_true,jR,jS]
  simp only[aj,Fl.e,Evn.e_l,jA,jB] at hV hC hA⊢
  simp only[aj.d3,apL,jC,jD,hV,hC,hA,h,aa,call4,jI,C.B_b,C.I_i,C.L_l,aB,hk,n1,decide_true,jR,jS,jZ]
  rfl
 ·have hL:=im (n:=f.cps.length) (b:=1) (ys:=[.b false,.b f.pack,.l [],.l [],.l [],.l ((f.bts.take k++f.bts.drop (k+1)).map Bt.e),.l (f.svs.map Sv.e),.l ((f.cps.map (lz e.nm)).map Cp.e)]) (body:=apn 31 aj.d1) (S:=fun i=>[C.i (f.cps.length:Nat),C.i (i:Nat)]++e.e++[.b false,.b f.pack,.l [],.l [],.l [],.l ((f.bts.take k++f.bts.drop (k+1)).map Bt.e),.l (f.svs.map Sv.e),.l ((nN (lz e.nm) f.cps i).map Cp.e)])
   (fun i hi=>by
    have hu:=qf (lz e.nm) f.cps i
    have hi':i<(nN (lz e.nm) f.cps i).length:=by omega
    have hg:(nN (lz e.nm) f.cps i)[i]=f.cps[i]:=by
     have:=ym (lz e.nm) hi
     rw[List.getElem?_eq_getElem hi'] at this
     exact Option.some.inj this
    have g0:=getD_map' Cp.e hi'
    rw[hg] at g0
    have g1:(f.cps[i].e).getD 11 .nil=.s f.cps[i].at_:=rfl
    have g2:ar f.cps[i].e 11 [.s (bs #[])]=({f.cps[i] with at_:=mkS []}:Cp).e:=by rw[eS];rfl
    have hS:=yg (lz e.nm) hi
    have hM:=zr (lz e.nm) hi
    simp only[Evn.e_l,jA,jB,apL,jC,jD,aj.d1,C.I_i,C.L_l,C.S_s,jW,hu,jY,ltL hi,decide_true,jR,jX,w1 hi hlc,g0,g1,g2]
    cases hq:sEq f.cps[i].at_ e.nm with
    |true=>
     have e2:(f.cps[i].at_.toList==e.nm.toList)=true:=hq
     simp only[e2,jR]
     rw[←hS,List.map_set]
     simp only[lz,hq,jR]
    |false=>
     have e2:(f.cps[i].at_.toList==e.nm.toList)=false:=hq
     simp only[e2,jS]
     rw[hM (by simp only[lz,hq,jS])])
   (by simp[Evn.e,Bt.e,Cp.e,aj.d1,qf,Bv]) f.cps.length 0 (by omega)
  have hb3:¬((k:Nat):Int)<0:=by omega
  have hD:=Bu Bt.e hkl hz.1.1
  simp only[h,hb3,decide_false,jS,jR,jY] at hR⊢
  rw[←lU]
  simp only[aj,Fl.e,Evn.e_l,jA,jB] at hV hC hA hL hR⊢
  simp only[nN,List.take_zero,List.map_nil,List.drop_zero,jB,Int.natCast_zero,hk] at hL
  simp only[aj.d3,apL,jC,jD,hV,hC,hA,h,hb3,aa,call4,jI,C.B_b,C.I_i,C.L_l,aB,hk,n1,decide_false,jR,jS,jZ,fM,hD,jW]
  erw[hL]
  simp only[dB,aj.d2,apL,jC,jD,C.L_l,hR,aa,jI,C.B_b,aB]
theorem H8 {e:Evn} (he:e.Sz 1048576) (hk:e.kd=4):aj (f.e++e.e)=some (yC (bif (eo f e).2 then vY (eo f e).1 else (fl0,3))):=by
 have hV:=cA hz
 have hC:=jz hz
 have hA:=pv f e.nm hz.2.2.1
 have hR:=cA (o8 hz hv he)
 have hH:eo f e=bif decide (cIx f e.nm<0) then (f,false) else ({f with cps:=f.cps.take (cIx f e.nm).toNat++f.cps.drop ((cIx f e.nm).toNat+1)},true):=by
  simp only[eo,hk];rfl
 rw[hH] at hR⊢
 rw[hv] at hV
 have n1:((4:Int)==1)=false∧((4:Int)==2)=false∧((4:Int)==3)=false∧((4:Int)==4)=true:=⟨rfl,rfl,rfl,rfl⟩
 rcases uZ f e.nm with h|⟨k,hkl,h,-⟩
 ·simp only[h,decide_true,jR,jS]
  simp only[aj,Fl.e,Evn.e_l,jA,jB] at hV hC hA⊢
  simp only[aj.d3,apL,jC,jD,hV,hC,hA,h,aa,call4,jI,C.B_b,C.I_i,C.L_l,aB,hk,n1,decide_true,jR,jS,jZ]
  rfl
 ·have hb3:¬((k:Nat):Int)<0:=by omega
  have hD:=Bu Cp.e hkl hz.2.2.1
  simp only[h,hb3,decide_false,jS,jR,jY] at hR⊢
  rw[←lU]
  simp only[aj,Fl.e,Evn.e_l,jA,jB] at hV hC hA hR⊢
  simp only[aj.d3,apL,jC,jD,hV,hC,hA,h,hb3,aa,call4,jI,C.B_b,C.I_i,C.L_l,aB,hk,n1,decide_false,jR,jS,jZ,gm,hD,jW,hR]
theorem HG {e:Evn} (he:e.Sz 1048576) (hk:e.kd=5):aj (f.e++e.e)=some (yC (bif (eo f e).2 then vY (eo f e).1 else (fl0,3))):=by
 have hV:=cA hz
 have hC:=jz hz
 have hA:=pv f e.nm hz.2.2.1
 have hB:=jg f e.at_ hz.1.1
 have hR:=cA (o8 hz hv he)
 have hH:eo f e=bif decide (cIx f e.nm<0)||(!sEq e.at_ (mkS [])&&decide (bIx f e.at_<0)) then (f,false) else (match f.cps[(cIx f e.nm).toNat]? with|some c=>({f with cps:=f.cps.set (cIx f e.nm).toNat {c with at_:=e.at_}},true)|none=>(f,false)):=by
  simp only[eo,hk];rfl
 rw[hH] at hR⊢
 rw[hv] at hV
 have n1:((5:Int)==1)=false∧((5:Int)==2)=false∧((5:Int)==3)=false∧((5:Int)==4)=false∧((5:Int)==5)=true:=⟨rfl,rfl,rfl,rfl,rfl⟩
 rcases uZ f e.nm with h|⟨k,hkl,h,-⟩
 ·simp only[h,decide_true,jR,jS,Bool.true_or]
  simp only[aj,Fl.e,Evn.e_l,jA,jB] at hV hC hA⊢
  simp only[aj.d3,apL,jC,jD,hV,hC,hA,h,aa,call4,jI,C.B_b,C.I_i,C.L_l,aB,hk,n1,decide_true,jR,jS,jZ]
  rfl
 ·have hb3:¬((k:Nat):Int)<0:=by omega
  have g0:=getD_map' Cp.e hkl
  have g2:ar f.cps[k].e 11 [.s e.at_]=({f.cps[k] with at_:=e.at_}:Cp).e:=rfl
  have hst:(f.cps.map Cp.e).set k ({f.cps[k] with at_:=e.at_}:Cp).e=(f.cps.set k {f.cps[k] with at_:=e.at_}).map Cp.e:=(List.map_set).symm
  have hbn:(bs #[]).toList=(mkS []).toList:=rfl
  have hq:(e.at_.toList==(mkS []).toList)=sEq e.at_ (mkS []):=rfl
  simp only[h,hb3,decide_false,Bool.false_or,jY,List.getElem?_eq_getElem hkl] at hR⊢
  simp only[aj,Fl.e,Evn.e_l,jA,jB] at hV hC hA hB hR⊢
  simp only[aj.d3,apL,jC,jD,hV,hC,hA,hB,h,hb3,aa,call4,jI,C.B_b,C.I_i,C.L_l,C.S_s,aB,hk,n1,hbn,hq,decide_false,jR,jS,jZ,ja,jW,jX,ltL hkl,jY,g0,g2,hst,decide_true]
  cases hs:sEq e.at_ (mkS [])<;>cases hd:decide (bIx f e.at_<0)<;>simp only[hs,hd,jZ,ja,Bool.true_and,Bool.false_and,jR,jS] at hR⊢<;>first|rfl|(rw[←lU];simp only[hR,jI,jC,C.B_b])
theorem Hr {e:Evn} (hk:¬e.kd=1∧¬e.kd=2∧¬e.kd=3∧¬e.kd=4∧¬e.kd=5):aj (f.e++e.e)=some (yC (fl0,4)):=by
 have hV:=cA hz
 have hC:=jz hz
 have n5:(e.kd==1)=false∧(e.kd==2)=false∧(e.kd==3)=false∧(e.kd==4)=false∧(e.kd==5)=false:=by simp only[beq_eq_false_iff_ne];exact hk
 rw[hv] at hV
 simp only[aj,Fl.e,Evn.e_l,jA,jB] at hV hC⊢
 simp only[aj.d3,apL,jC,jD,hV,hC,aa,call4,jI,C.B_b,C.I_i,aB,n5,jS,jZ]
 rfl
omit hv in
theorem uk {e:Evn} (he:e.Sz 1048576):aj (f.e++e.e)=some (yC (B4 f e)):=by
 unfold B4
 cases hv:dz f with
 |false=>
  have hV:=cA hz
  rw[hv] at hV
  simp only[aj,Fl.e,Evn.e_l,jA,jB] at hV⊢
  simp only[aj.d3,apL,jC,jD,hV,aa,jI,C.B_b,ja,jR]
  rfl
 |true=>
  have hw:∀n:Int,1≤n→n≤5→within n 1 5=true:=fun n h1 h2=>by simp[within,h1,h2]
  by_cases h1:e.kd=1
  ·rw[HF hz hv he h1,h1,show (eo f e).2=true by simp only[eo,h1];rfl,hw 1 (by decide) (by decide)]
   unfold vY;cases dz (eo f e).1<;>rfl
  by_cases h2:e.kd=2
  ·rw[HV hz hv he h2,h2,hw 2 (by decide) (by decide)]
   unfold vY;cases (eo f e).2<;>cases dz (eo f e).1<;>rfl
  by_cases h3:e.kd=3
  ·rw[HE hz hv he h3,h3,show (eo f e).2=true by simp only[eo,h3];rfl,hw 3 (by decide) (by decide)]
   unfold vY;cases dz (eo f e).1<;>rfl
  by_cases h4:e.kd=4
  ·rw[H8 hz hv he h4,h4,hw 4 (by decide) (by decide)]
   unfold vY;cases (eo f e).2<;>cases dz (eo f e).1<;>rfl
  by_cases h5:e.kd=5
  ·rw[HG hz hv he h5,h5,hw 5 (by decide) (by decide)]
   unfold vY;cases (eo f e).2<;>cases dz (eo f e).1<;>rfl
  have n5:(e.kd==1)=false∧(e.kd==2)=false∧(e.kd==3)=false∧(e.kd==4)=false∧(e.kd==5)=false:=by simp only[beq_eq_false_iff_ne];exact ⟨h1,h2,h3,h4,h5⟩
  have hW:within e.kd 1 5=false:=by simp[within];omega
  rw[Hr hz hv ⟨h1,h2,h3,h4,h5⟩,show eo f e=(f,true) by simp only[eo,n5,jS],hW,hv]
  rfl
end
end Go.Ev
namespace Go.Ev
theorem tK (e:Evn) (n:Int) (h0:0≤n) (h1:n≤1048576) (hz:e.Sz maxLen):SzR (fh (e.e++[.i n])) n (e.Sz 1048576):=by
 have hb:=nB e.b n h0 h1 hz.1
 simp only[Bt.e,jA,jB] at hb
 simp only[fh,fh.d1,Evn.e_l,jA,jB,apL,jC,jD,C.S_s,C.I_i]
 rcases hb with h|⟨m,m0,m1,hp,h⟩
 ·rw[h];exact .inl rfl
 rw[h]
 have hm:¬m<0:=by omega
 have hc:=nS e.c m m0 (by omega) hz.2.1
 simp only[Cp.e,jA,jB] at hc
 simp only[aa,jI,jC,C.I_i,hm,decide_false,jS]
 rcases hc with h|⟨k,k0,k1,hq,h⟩
 ·rw[h];exact .inl rfl
 rw[h]
 have hk:¬k<0:=by omega
 simp only[aa,jI,jC,C.I_i,hk,decide_false,jS,gP k0 (by omega) hz.2.2.1]
 by_cases q1:k-(e.nm.size:Int)<0
 ·simp only[q1,decide_true,jR,jV];exact .inl rfl
 simp only[q1,decide_false,jS,gP (n:=k-e.nm.size) (by omega) (by omega) hz.2.2.2]
 by_cases q2:k-(e.nm.size:Int)-(e.at_.size:Int)<0
 ·simp only[q2,decide_true,jR,jV];exact .inl rfl
 simp only[q2,decide_false,jS,jV]
 exact .inr ⟨_,by omega,by omega,⟨hp,hq,by omega,by omega⟩,rfl⟩
theorem FA {f:Fl} (hz:f.Sz 1048576) {e:Evn} (he:e.Sz 1048576):(B4 f e).1.Sz 1048576:=by
 unfold B4
 cases hv:dz f with
 |false=>exact Ew
 |true=>
  have:=o8 hz hv he
  cases (eo f e).2<;>cases dz (eo f e).1<;>cases within e.kd 1 5<;>first|exact Ew|exact this
theorem nR (f:Fl) (s:Evn) (hz:f.Sz maxLen) (hs:s.Sz maxLen):dm (f.e++s.e)=some [.b true]:=by
 have h1:=tJ f 1048576 (by omega) (by omega) hz
 simp only[Fl.e,jA,jB] at h1
 simp only[dm,dm.d1,Fl.e,Evn.e_l,jA,jB,apL,jC,jD,C.S_s]
 rcases h1 with h|⟨n,n0,n1,hz',h⟩
 ·simp[h,aa]
 have hn:¬n<0:=by omega
 have h2:=tK s n (by omega) (by omega) hs
 simp only[Evn.e_l,jA,jB] at h2
 simp only[h,aa,jI,jC,C.I_i,hn,decide_false,jS]
 rcases h2 with h|⟨m,m0,m1,hs',h⟩
 ·simp[h,aa]
 have hm:¬m<0:=by omega
 have t1:=tV f hz'
 have t2:=nj s.b hs'.1
 have t5:=nU s.c hs'.2.1
 have t3:=nh f hz'
 have t4:=ng s.b hs'.1
 have t6:=oH s.c hs'.2.1
 have s1:=uG hz' hs'
 have s2:=uk hz' hs'
 have hr:=FA hz' hs'
 generalize B4 f s=r at s1 s2 hr
 have e1:=nh r.1 hr
 have mk:=lL hz' (k:=1) (by omega) (by omega)
 obtain ⟨u1,u2,u3⟩:=wz hz' (k:=1) (by omega)
 have mg:=nT s.b.marks (oE f 1).2 hs'.1.2.2.1 (by omega) (by omega)
 have ug:=nV s.b.marks (oE f 1).2
 have bl:(s.b.marks.length:Int)≤1048576:=by have:=hs'.1.2.2.1;omega
 have ml:=lN s.c.likes (aO mkStr s.b.marks (oE f 1).2).2 hs'.2.1.2.2.2.2.2.2.1 (by omega) (by omega)
 have ul:=qV s.c.likes (aO mkStr s.b.marks (oE f 1).2).2
 have hk:¬(aO lQ s.c.likes (aO mkStr s.b.marks (oE f 1).2).2).2<0:=by omega
 have mr:=lL hr (k:=1) (by omega) (by omega)
 have hr2:=rC hr (k:=1) (by omega) (by omega)
 obtain ⟨v1,v2,v3⟩:=wz hr (k:=1) (by omega)
 have hm3:¬(oE r.1 1).2<0:=by omega
 simp only[Fl.e,Evn.e_l,Bt.e,Bt.o,Cp.e,Cp.o,yC,jA,jB] at t1 t2 t3 t4 t5 t6 s1 s2 e1
 simp only[gj,gj.d1,dJ,dJ.d1,fU,fU.d1,ff,ff.d1,fe,fe.d1,fp,fp.d1,apL,Hp,beq_self_eq_true,h,hm,t1,t2,t3,t4,t5,t6,s1,s2,mk,mg,ml,hk,mr,hr2,hm3,e1,aa,call2,call3,call4,call5,call6,call12,call21,jI,jC,jD,C.I_i,C.L_l,C.B_b,C.S_s,decide_false,jS,jZ,ja,jR,bne_self_eq_false,jV]
end Go.Ev
namespace Go.Ev
section
variable {bs:List (List C)} (hb:BY bs) (hl:bs.length≤2000)
include hb hl
end
end Go.Ev
namespace Go.Ev
def Evn.q (e:Evn) (bs:List (List C)) (p:Int):List C:=[.i e.kd,.s e.b.name,.s e.b.zone,.i e.b.room,.i e.b.hold,.b e.b.shut,.s e.c.name,.s e.c.svc,.i e.c.rank,.i e.c.born,.i e.c.room,.i e.c.hold,.s e.c.sel,.i e.c.apart,.s e.c.near,.s e.c.fixed,.s e.c.at_,.s e.nm,.s e.at_,.l bs,.i p,.l (e.b.marks.map sE),.l (e.c.likes.map Lk.e)]
def Evn.o (e:Evn):List C:=[.i e.kd,.s e.b.name,.s e.b.zone,.i e.b.room,.i e.b.hold,.b e.b.shut,.s e.c.name,.s e.c.svc,.i e.c.rank,.i e.c.born,.i e.c.room,.i e.c.hold,.s e.c.sel,.i e.c.apart,.s e.c.near,.s e.c.fixed,.s e.c.at_,.s e.nm,.s e.at_,.l (e.b.marks.map sE),.l (e.c.likes.map Lk.e)]
section
variable {bs:List (List C)} (hb:BY bs) (hl:bs.length≤2000) {f:Fl} (hz:f.Sz 1048576)
include hb hl hz
end
end Go.Ev
namespace Go.Ev
theorem nP {α:Type} (e:α→List C) (P:α→Prop):∀(es:List (List C)),(∀r,r∈es→∃x,r=e x∧P x)→∃l:List α,es=l.map e∧∀x,x∈l→P x
 |[],_=>⟨[],rfl,fun x h=>by simp at h⟩
 |r::es,h=>by
  obtain ⟨x,rfl,hx⟩:=h r (by simp)
  obtain ⟨l,rfl,hl⟩:=nP e P es fun r hr=>h r (by simp[hr])
  exact ⟨x::l,rfl,fun y hy=>by
   rcases List.mem_cons.1 hy with rfl|hy
   ·exact hx
   ·exact hl y hy⟩
theorem ue {T:Tys} {e:TypeId} {d:TD} {c:C} (h:DB T (.sl e) c) (hd:aR T e=some d):∃es:List (List C),c=.l es∧es.length≤maxLen∧∀r,r∈es→r.length=d.cts.length∧∀(j:Nat) (c:C) (ct:CT),r[j]?=some c→d.cts[j]?=some ct→DB T ct c:=by
 cases h with
 |l e es h h1 h2=>exact ⟨es,rfl,h,fun r hr=>⟨h1 r d hr hd,fun j c ct=>h2 r d j c ct hr hd⟩⟩
theorem fH {T:Tys} {c:C} (h:DB T .str c):∃s:Str,c=.s s∧s.size≤maxLen:=by cases h with|s x h=>exact ⟨x,rfl,h⟩
theorem ib {T:Tys} {k:IntKind} {c:C} (h:DB T (.int k) c):∃n:Int,c=.i n:=by cases h with|i k n h=>exact ⟨n,rfl⟩
theorem AE {T:Tys} {c:C} (h:DB T .bool c):∃b:Bool,c=.b b:=by cases h with|b x=>exact ⟨x,rfl⟩
theorem C9 {c:C} (h:DB T0 (.sl 9) c):∃l:List Str,c=.l (l.map sE)∧Ao maxLen l:=by
 obtain ⟨es,rfl,hl,hr⟩:=ue h (d:=⟨.str,[.str],16⟩) rfl
 obtain ⟨l,rfl,h2⟩:=nP sE (fun s=>s.size≤maxLen) es fun r hr'=>by
  obtain ⟨h1,h2⟩:=hr r hr'
  match r,h1 with
  |[c],_=>
   obtain ⟨s,rfl,hs⟩:=fH (h2 0 c .str rfl rfl)
   exact ⟨s,rfl,hs⟩
 exact ⟨l,rfl,by simpa using hl,h2⟩
theorem HC {c:C} (h:DB T0 (.sl 48) c):∃l:List Bt,c=.l (l.map Bt.e)∧l.length≤maxLen∧∀x,x∈l→(fun x=>x.Sz maxLen) x:=by
 obtain ⟨es,rfl,hl,hr⟩:=ue h (d:=⟨(.st [(0,9),(1,9),(2,28),(3,3),(4,3),(5,4)]),[.str,.str,(.sl 9),(.int .i64),(.int .i64),.bool],80⟩) rfl
 obtain ⟨l,rfl,h2⟩:=nP Bt.e (fun x=>x.Sz maxLen) es fun r hr'=>by
  obtain ⟨h1,h2⟩:=hr r hr'
  match r,h1 with
  |[x0,x1,x2,x3,x4,x5],_=>
   obtain ⟨x0,rfl,sx0⟩:=fH (h2 0 x0 _ rfl rfl)
   obtain ⟨x1,rfl,sx1⟩:=fH (h2 1 x1 _ rfl rfl)
   obtain ⟨x2,rfl,zx2⟩:=C9 (h2 2 x2 _ rfl rfl)
   obtain ⟨x3,rfl⟩:=ib (h2 3 x3 _ rfl rfl)
   obtain ⟨x4,rfl⟩:=ib (h2 4 x4 _ rfl rfl)
   obtain ⟨x5,rfl⟩:=AE (h2 5 x5 _ rfl rfl)
   exact ⟨⟨x0,x1,x2,x3,x4,x5⟩,rfl,⟨sx0,sx1,zx2⟩⟩
 exact ⟨l,rfl,by simpa using hl,h2⟩
theorem HU {c:C} (h:DB T0 (.sl 124) c):∃l:List Sv,c=.l (l.map Sv.e)∧l.length≤maxLen∧∀x,x∈l→(fun x=>x.Sz maxLen) x:=by
 obtain ⟨es,rfl,hl,hr⟩:=ue h (d:=⟨(.st [(0,9),(1,3)]),[.str,(.int .i64)],24⟩) rfl
 obtain ⟨l,rfl,h2⟩:=nP Sv.e (fun x=>x.Sz maxLen) es fun r hr'=>by
  obtain ⟨h1,h2⟩:=hr r hr'
  match r,h1 with
  |[x0,x1],_=>
   obtain ⟨x0,rfl,sx0⟩:=fH (h2 0 x0 _ rfl rfl)
   obtain ⟨x1,rfl⟩:=ib (h2 1 x1 _ rfl rfl)
   exact ⟨⟨x0,x1⟩,rfl,sx0⟩
 exact ⟨l,rfl,by simpa using hl,h2⟩
theorem Gw {c:C} (h:DB T0 (.sl 146) c):∃l:List Lk,c=.l (l.map Lk.e)∧l.length≤maxLen∧∀x,x∈l→(fun x=>x.sel.size≤maxLen) x:=by
 obtain ⟨es,rfl,hl,hr⟩:=ue h (d:=⟨(.st [(0,9),(1,3)]),[.str,(.int .i64)],24⟩) rfl
 obtain ⟨l,rfl,h2⟩:=nP Lk.e (fun x=>x.sel.size≤maxLen) es fun r hr'=>by
  obtain ⟨h1,h2⟩:=hr r hr'
  match r,h1 with
  |[x0,x1],_=>
   obtain ⟨x0,rfl,sx0⟩:=fH (h2 0 x0 _ rfl rfl)
   obtain ⟨x1,rfl⟩:=ib (h2 1 x1 _ rfl rfl)
   exact ⟨⟨x0,x1⟩,rfl,sx0⟩
 exact ⟨l,rfl,by simpa using hl,h2⟩
theorem Ih {c:C} (h:DB T0 (.sl 51) c):∃l:List Cp,c=.l (l.map Cp.e)∧l.length≤maxLen∧∀x,x∈l→(fun x=>x.Sz maxLen) x:=by
 obtain ⟨es,rfl,hl,hr⟩:=ue h (d:=⟨(.st [(0,9),(1,9),(2,3),(3,3),(4,3),(5,3),(6,9),(7,49),(8,3),(9,9),(10,9),(11,9)]),[.str,.str,(.int .i64),(.int .i64),(.int .i64),(.int .i64),.str,(.sl 146),(.int .i64),.str,.str,.str],160⟩) rfl
 obtain ⟨l,rfl,h2⟩:=nP Cp.e (fun x=>x.Sz maxLen) es fun r hr'=>by
  obtain ⟨h1,h2⟩:=hr r hr'
  match r,h1 with
  |[x0,x1,x2,x3,x4,x5,x6,x7,x8,x9,x10,x11],_=>
   obtain ⟨x0,rfl,sx0⟩:=fH (h2 0 x0 _ rfl rfl)
   obtain ⟨x1,rfl,sx1⟩:=fH (h2 1 x1 _ rfl rfl)
   obtain ⟨x2,rfl⟩:=ib (h2 2 x2 _ rfl rfl)
   obtain ⟨x3,rfl⟩:=ib (h2 3 x3 _ rfl rfl)
   obtain ⟨x4,rfl⟩:=ib (h2 4 x4 _ rfl rfl)
   obtain ⟨x5,rfl⟩:=ib (h2 5 x5 _ rfl rfl)
   obtain ⟨x6,rfl,sx6⟩:=fH (h2 6 x6 _ rfl rfl)
   obtain ⟨x7,rfl,zx7⟩:=Gw (h2 7 x7 _ rfl rfl)
   obtain ⟨x8,rfl⟩:=ib (h2 8 x8 _ rfl rfl)
   obtain ⟨x9,rfl,sx9⟩:=fH (h2 9 x9 _ rfl rfl)
   obtain ⟨x10,rfl,sx10⟩:=fH (h2 10 x10 _ rfl rfl)
   obtain ⟨x11,rfl,sx11⟩:=fH (h2 11 x11 _ rfl rfl)
   exact ⟨⟨x0,x1,x2,x3,x4,x5,x6,x7,x8,x9,x10,x11⟩,rfl,⟨sx0,sx1,sx6,sx9,sx10,sx11,zx7⟩⟩
 exact ⟨l,rfl,by simpa using hl,h2⟩
abbrev Cq:List CT:=[.bool,(.sl 48),(.sl 124),(.sl 51)]
theorem HN {w:World} {vs:List Value} {xs:List C} (h:Rd T0 w Cq vs xs):∃f:Fl,xs=f.e∧f.Sz maxLen:=by
 obtain ⟨h1,_,_,h2⟩:=h
 match xs,h1 with
 |[x0,x1,x2,x3],_=>
  obtain ⟨x0,rfl⟩:=AE (h2 0 x0 _ rfl rfl)
  obtain ⟨x1,rfl,zx1⟩:=HC (h2 1 x1 _ rfl rfl)
  obtain ⟨x2,rfl,zx2⟩:=HU (h2 2 x2 _ rfl rfl)
  obtain ⟨x3,rfl,zx3⟩:=Ih (h2 3 x3 _ rfl rfl)
  exact ⟨⟨x0,x1,x2,x3⟩,rfl,⟨zx1,zx2,zx3⟩⟩
abbrev AA:List CT:=[(.int .i64),.str,.str,(.sl 9),(.int .i64),(.int .i64),.bool,.str,.str,(.int .i64),(.int .i64),(.int .i64),(.int .i64),.str,(.sl 146),(.int .i64),.str,.str,.str,.str,.str]
theorem G7 {w:World} {vs:List Value} {xs:List C} (h:Rd T0 w AA vs xs):∃f:Evn,xs=f.e∧f.Sz maxLen:=by
 obtain ⟨h1,_,_,h2⟩:=h
 match xs,h1 with
 |[x0,x1,x2,x3,x4,x5,x6,x7,x8,x9,x10,x11,x12,x13,x14,x15,x16,x17,x18,x19,x20],_=>
  obtain ⟨x0,rfl⟩:=ib (h2 0 x0 _ rfl rfl)
  obtain ⟨x1,rfl,sx1⟩:=fH (h2 1 x1 _ rfl rfl)
  obtain ⟨x2,rfl,sx2⟩:=fH (h2 2 x2 _ rfl rfl)
  obtain ⟨x3,rfl,zx3⟩:=C9 (h2 3 x3 _ rfl rfl)
  obtain ⟨x4,rfl⟩:=ib (h2 4 x4 _ rfl rfl)
  obtain ⟨x5,rfl⟩:=ib (h2 5 x5 _ rfl rfl)
  obtain ⟨x6,rfl⟩:=AE (h2 6 x6 _ rfl rfl)
  obtain ⟨x7,rfl,sx7⟩:=fH (h2 7 x7 _ rfl rfl)
  obtain ⟨x8,rfl,sx8⟩:=fH (h2 8 x8 _ rfl rfl)
  obtain ⟨x9,rfl⟩:=ib (h2 9 x9 _ rfl rfl)
  obtain ⟨x10,rfl⟩:=ib (h2 10 x10 _ rfl rfl)
  obtain ⟨x11,rfl⟩:=ib (h2 11 x11 _ rfl rfl)
  obtain ⟨x12,rfl⟩:=ib (h2 12 x12 _ rfl rfl)
  obtain ⟨x13,rfl,sx13⟩:=fH (h2 13 x13 _ rfl rfl)
  obtain ⟨x14,rfl,zx14⟩:=Gw (h2 14 x14 _ rfl rfl)
  obtain ⟨x15,rfl⟩:=ib (h2 15 x15 _ rfl rfl)
  obtain ⟨x16,rfl,sx16⟩:=fH (h2 16 x16 _ rfl rfl)
  obtain ⟨x17,rfl,sx17⟩:=fH (h2 17 x17 _ rfl rfl)
  obtain ⟨x18,rfl,sx18⟩:=fH (h2 18 x18 _ rfl rfl)
  obtain ⟨x19,rfl,sx19⟩:=fH (h2 19 x19 _ rfl rfl)
  obtain ⟨x20,rfl,sx20⟩:=fH (h2 20 x20 _ rfl rfl)
  exact ⟨⟨x0,⟨x1,x2,x3,x4,x5,x6⟩,⟨x7,x8,x9,x10,x11,x12,x13,x14,x15,x16,x17,x18⟩,x19,x20⟩,rfl,⟨⟨sx1,sx2,zx3⟩,⟨sx7,sx8,sx13,sx16,sx17,sx18,zx14⟩,sx19,sx20⟩⟩
end Go.Ev
