/- Proved here: the law FnPilotOrderCard of the given program answers true at every input, and leaves the input as it was; no condition. This text: lemmas on the way (an evaluator of the program's code, sound once for all; the functions it prints; plain proofs on these). -/
import Derived.Test.YtjjlcnfineddoaaGreatDoorP3
set_option linter.all false
set_option autoImplicit false
set_option maxRecDepth 8000
namespace Go.Ev
theorem lex_nil:∀l:List UInt8,(cX l=[])↔l.all sp=true
 |[]=>by simp[cX]
 |c::r=>by
  rw[cX.eq_2]
  by_cases h:c=32
  ·subst h
   rw[if_pos rfl,List.all_cons,lex_nil r]
   simp[sp]
  ·rw[if_neg h]
   have:sp c=false:=by simp[sp,h]
   split<;>simp[this]
theorem BR (s0:Str):∀(n:Nat) (l:List UInt8),l.length≤n→n≤1048576→∃q,lim (apn 2 aM.d1) [.s (mkS l),.i 32]=some (.brk 0 [.s (mkS q)])∧q.length≤l.length∧q.all sp=l.all sp
 |n,l,hn,hb=>by
  rcases List.eq_nil_or_concat l with rfl|⟨p,c,rfl⟩
  ·exact ⟨[],aY (by simp[aM.d1,mn]),Nat.le_refl _,rfl⟩
  ·simp only[List.concat_eq_append] at hn⊢
   obtain ⟨n,rfl⟩:∃n',n=n'+1:=⟨n-1,by simp at hn;omega⟩
   have hsz:(mkS (p++[c])).size=p.length+1:=by rw[mn];simp
   have hw:w64 (((p.length+1:Nat):Int)-1)=(p.length:Nat):=by simp at hn;rw[aZ (by omega) (by omega)];omega
   have hgd:(mkS (p++[c])).data.getD p.length 0=c:=by
    rw[dW (by rw[gn];simp)]
    simp[gn]
   have hext:(mkS (p++[c])).extract 0 p.length=mkS p:=by
    rw[kG,gn];simp
   have e1:((p.length+1:Nat):Int)>0:=by omega
   have e2:(p.length:Int)<((p.length+1:Nat):Int):=by omega
   have e3:(p.length:Int)≤((p.length+1:Nat):Int):=by omega
   cases hc:sp c with
   |true=>
    have h:apn 2 aM.d1 [.s (mkS (p++[c])),.i 32]=some (.again [.s (mkS p),.i 32]):=by
     simp only[sp] at hc
     simp only[apL,jC,jD,aM.d1,C.S_s,C.I_i,hsz,hw,jY,hgd,bn c 32 32 rfl,hc,hext,e1,e2,e3,decide_true,jR,jX]
    rw[aO h]
    obtain ⟨q,h1,h2,h3⟩:=BR s0 n p (by simp at hn;omega) (by omega)
    exact ⟨q,h1,by simp;omega,by rw[h3];simp[hc]⟩
   |false=>
    refine ⟨p++[c],aY ?_,Nat.le_refl _,rfl⟩
    simp only[sp] at hc
    simp only[apL,jC,jD,aM.d1,C.S_s,C.I_i,hsz,hw,jY,hgd,bn c 32 32 rfl,hc,e1,e2,decide_true,jR,jS,jX]
theorem Cg:∀(l:List UInt8),l.length≤1048576→lim (apn 2 aQ.d1) [.s (mkS l),.i 32]=some (.brk 0 [.s (mkS (l.dropWhile sp))])
 |[],hn=>aY (by simp[aQ.d1,mn])
 |c::r,hn=>by
  have hsz:(mkS (c::r)).size=r.length+1:=rfl
  have hgd:(mkS (c::r)).data.getD 0 0=c:=by
   rw[dW (by rw[gn];simp)]
   simp[gn]
  have hext:(mkS (c::r)).extract 1 (r.length+1)=mkS r:=by
   rw[kG,gn];simp
  have e1:((r.length+1:Nat):Int)>0:=by omega
  have e2:(1:Int)≤((r.length+1:Nat):Int):=by omega
  rw[List.dropWhile_cons]
  cases hc:sp c with
  |true=>
   have h:apn 2 aQ.d1 [.s (mkS (c::r)),.i 32]=some (.again [.s (mkS r),.i 32]):=by
    simp only[sp] at hc
    have e1':(0:Int)<((r.length+1:Nat):Int):=by omega
    simp only[apL,jC,jD,aQ.d1,C.S_s,C.I_i,hsz,jY,hgd,bn c 32 32 rfl,hc,hext,e1,e1',e2,decide_true,jR,Int.le_refl]
   rw[aO h]
   simp only[List.length_cons] at hn
   simpa using Cg r (by omega)
  |false=>
   refine aY ?_
   simp only[sp] at hc
   have e1':(0:Int)<((r.length+1:Nat):Int):=by omega
   simp only[apL,jC,jD,aQ.d1,C.S_s,C.I_i,hsz,jY,hgd,bn c 32 32 rfl,hc,e1,e1',decide_true,jR,jS]
   rfl
theorem pX (l:List UInt8):l.dropWhile sp=[]↔l.all sp=true:=by
 induction l with
 |nil=>simp
 |cons c r ih=>
  rw[List.dropWhile_cons,List.all_cons]
  cases hc:sp c<;>simp[ih]
theorem GH (s:Str) (hl:s.size≤1048576):∃z,eN [.s s,.s (bs #[32])]=some [.s z]∧(z.toList==(bs #[]).toList)=s.data.toList.all sp:=by
 have hb32:bs #[32]=mkS [32]:=rfl
 simp only[eN,eN.d2,apL,jC,jD,C.S_s]
 cases hq:(s.toList==(bs #[]).toList) with
 |true=>
  have:s=mkS []:=(fb s (bs #[])).1 hq
  subst this
  refine ⟨mkS [],?_,?_⟩
  ·simp
  ·rw[hq];rfl
 |false=>
  have h32:((bs #[32]).toList==(bs #[]).toList)=false:=by
   rw[hb32,eM,eu,eM];rfl
  have hsz:(bs #[32]).size=1:=rfl
  have hgd:(bs #[32]).data.getD 0 0=32:=rfl
  obtain ⟨q,h1,h2,h3⟩:=BR s s.data.toList.length s.data.toList (Nat.le_refl _) (by rw[←cS];exact hl)
  rw[Hj] at h1
  have h4:=Cg q (by rw[←cS] at h2;omega)
  refine ⟨mkS (q.dropWhile sp),?_,?_⟩
  ·have e1:(((32:UInt8).toNat:Nat):Int)=32:=rfl
   have e2:((1:Nat):Int)=1:=rfl
   simp only[ja,jR,h32,jS,hsz,hgd,e1,e2,aM,aM.d3,aQ,aQ.d3,apL,jC,jD,h1,bg,aM.d2,jV,ae,jI]
   simp[h4,aQ.d2]
  ·rw[←h3,eM,eu,eM,gn,gn]
   cases hall:q.all sp with
   |true=>rw[(pX q).2 hall];rfl
   |false=>
    cases hd:q.dropWhile sp with
    |nil=>rw[(pX q).1 hd] at hall;simp at hall
    |cons c r=>rfl
inductive PR where
 |err (n:Nat)
 |all
 |tree (t:Tr)
def pp (s:Str):PR:=
 if 200<s.size then .err 1
 else if s.data.toList.all sp=true then .all
 else match prs 1000 0 (cX s.data.toList) with
  |some (t,[])=>if t.depth≤20 then .tree t else .err 3
  |_=>.err 2
def PR.nodes:PR→List (List C)
 |.err _=>[]
 |.all=>[node 0 [] [] 0]
 |.tree t=>t.flat
def PR.code:PR→Nat
 |.err n=>n
 |_=>0
def PR.ptr:PR→C
 |.err _=>.nil
 |.all=>.p [.i 0,.s (mkS []),.s (mkS []),.l []]
 |.tree t=>t.enc
theorem FH {s:Str} {t:Tr} (h:pp s=.tree t):t.Wf∧t.sz≤200∧t.depth≤20:=by
 unfold pp at h
 split at h
 ·simp at h
 ·rename_i hs
  split at h
  ·simp at h
  ·split at h
   ·rename_i u hq
    split at h
    ·rename_i hd
     simp only[PR.tree.injEq] at h
     subst h
     obtain ⟨p,h1,h2,h3,h4⟩:=l8 _ _ _ _ _ hq
     have:=(pP _ s.data.toList (Nat.le_refl _)).1
     rw[h1] at this
     rw[←cS] at this
     simp at this
     exact ⟨h4,by omega,hd⟩
    ·simp at h
   ·simp at h
theorem nO (s:Str) (hl:s.size≤1048576):fA [.s s]=some [.l (pp s).nodes,.i ((pp s).code:Nat)]:=by
 have hF:=lQ
 simp only[fA,fA.d1,apL,jC,C.S_s]
 by_cases hs:(s.size:Int)>200
 ·have h200:200<s.size:=by omega
  simp[hs,pp,h200,PR.nodes,PR.code]
 have h200:¬200<s.size:=by omega
 simp only[hs,decide_false,jS]
 have hlen:=pP _ s.data.toList (Nat.le_refl _)
 rw[←cS] at hlen
 rcases wK s hl with ⟨hg,ht⟩|⟨hg,o,ht⟩
 ·simp only[ht,call2,jI,jC,jD,C.B_b,jZ,jS,C.L_l,jW]
  cases hall:s.data.toList.all sp with
  |true=>
   have:cX s.data.toList=[]:=(lex_nil _).2 hall
   rw[this]
   simp[pp,h200,hall,PR.nodes,PR.code,node,eu]
  |false=>
   have hne:cX s.data.toList≠[]:=fun h=>by rw[(lex_nil _).1 h] at hall;simp at hall
   have hlp:0<(cX s.data.toList).length:=List.length_pos_iff.2 hne
   have hz:(((cX s.data.toList).length:Int)==0)=false:=by rw[beq_eq_false_iff_ne];omega
   obtain ⟨nodes,a',bad,hgo,q1,q2,q3,q4⟩:=Gt (T:=cX s.data.toList) (by omega) (fun t ht=>by have:=hlen.2 t ht;omega) 1000 0 iW 0 (by omega) (by omega) (by omega) (by omega)
   have hgo:ao [.l ((cX s.data.toList).map tk),.i 0,.b false]=_:=hgo
   simp only[hz,jS,hgo,call4,jI,jC,jD,C.B_b,C.I_i]
   simp only[List.drop_zero] at q4
   simp only[pp,if_neg h200,hall,Bool.false_eq_true,if_false]
   cases hp:prs 1000 0 (cX s.data.toList) with
   |none=>
    rw[hp] at q4
    simp only at q4
    subst q4
    simp[PR.nodes,PR.code]
   |some z=>
    obtain ⟨t,r⟩:=z
    rw[hp] at q4
    obtain ⟨rfl,rfl,q5,q6⟩:=q4
    simp only[ja,jR]
    have hrl:r.length=(cX s.data.toList).length-a':=by rw[←q5];simp
    cases r with
    |cons x r=>
     simp only[List.length_cons] at hrl
     have:(a':Int)<((cX s.data.toList).length:Int):=by omega
     simp[this,PR.nodes,PR.code]
    |nil=>
     simp only[List.length_nil] at hrl
     have:¬(a':Int)<((cX s.data.toList).length:Int):=by omega
     obtain ⟨p,h1,h2,h3,h4⟩:=l8 _ _ _ _ _ hp
     have h5:t.sz≤400:=by
      have:=hlen.1
      rw[h1] at this
      simp at this
      omega
     simp only[this,decide_false,jS,y4 t h5 h4,ae,jI,jC,C.B_b]
     by_cases hd:t.depth≤20<;>simp[hd,PR.nodes,PR.code]
 ·simp only[ht,call2,jI,jC,jD,C.B_b,ja,jR,jV,ah]
  have hcode:pp s=.err 2:=by
   unfold pp
   rw[if_neg h200,if_neg]
   ·split
    ·rename_i t hq
     obtain ⟨p,h1,h2,h3,h4⟩:=l8 _ _ _ _ _ hq
     have:=pw _ s.data.toList (Nat.le_refl _) (fun x hx=>h2 x (by rw[h1] at hx;simpa using hx))
     rw[this] at hg;simp at hg
    ·rfl
   ·intro hall
    have:s.data.toList.all gA=true:=by
     rw[List.all_eq_true] at hall⊢
     intro x hx
     have:=hall x hx
     simp only[sp] at this
     simp[gA,this]
    rw[this] at hg;simp at hg
  rw[hcode]
  rfl
theorem tl (s:Str) (hl:s.size≤1048576):ko [.s s]=some [(pp s).ptr,.i ((pp s).code:Nat)]:=by
 have hF:=lQ
 simp only[ko,ko.d1,apL,jC,C.S_s]
 by_cases hs:(s.size:Int)>200
 ·have h200:200<s.size:=by omega
  simp[hs,pp,h200,PR.ptr,PR.code]
 have h200:¬200<s.size:=by omega
 have hlen:=pP _ s.data.toList (Nat.le_refl _)
 rw[←cS] at hlen
 obtain ⟨z,hz,hz2⟩:=GH s hl
 simp only[hs,decide_false,jS,hz,ae,jI,jC,C.S_s,hz2]
 cases hall:s.data.toList.all sp with
 |true=>simp[pp,h200,hall,PR.ptr,PR.code,eu]
 |false=>
  obtain ⟨c,i',ok,hgo,q1,q2⟩:=Gp (s:=s) hl 1000 0 iW 0 (by omega) (by omega) (by simp only[List.drop_zero];omega) (by omega)
  have hgo:av [.s s,.i 0,.b true]=_:=hgo
  simp only[List.drop_zero] at q2
  simp only[jS,hgo,call4,jI,jC,jD,Ef hl i' ok q1,call3,C.B_b,C.I_i]
  simp only[pp,if_neg h200,hall,Bool.false_eq_true,if_false]
  cases hp:prs 1000 0 (cX s.data.toList) with
  |none=>
   rw[hp] at q2
   simp only at q2
   subst q2
   simp[PR.ptr,PR.code]
  |some y=>
   obtain ⟨t,r⟩:=y
   rw[hp] at q2
   obtain ⟨rfl,rfl,q3,q4⟩:=q2
   have hgd:=yf (s:=s) i'
   have hlt:=rB (s.data.toList.drop i')
   rw[q3,←hgd] at hlt
   simp only[jZ,ja,jR,jS]
   cases r with
   |cons x r=>
    have:(gp s i':Int)<(s.size:Int):=by
     rcases Nat.lt_or_ge (gp s i') s.size with h|h
     ·omega
     ·rw[cS] at h
      rw[List.drop_eq_nil_of_le h] at hlt
      simp[cX] at hlt
    simp[this,PR.ptr,PR.code]
   |nil=>
    have:¬(gp s i':Int)<(s.size:Int):=by
     intro h
     have h:gp s i'<s.data.toList.length:=by rw[←cS];omega
     have h1:=(lex_nil _).1 hlt
     rw[hgd] at h1
     have h2:((s.data.toList.drop i').dropWhile sp).length=s.data.toList.length-gp s i':=by rw[←hgd];simp
     cases hq:(s.data.toList.drop i').dropWhile sp with
     |nil=>rw[hq] at h2;simp at h2;omega
     |cons x r=>
      have:=wb hq
      rw[hq] at h1
      simp[sp] at h1
      exact this h1.1
    obtain ⟨p,h1,h2,h3,h4⟩:=l8 _ _ _ _ _ hp
    have h5:t.sz≤400:=by
     have:=hlen.1
     rw[h1] at this
     simp at this
     omega
    have hdl:=t.lH
    have hdep:aw [t.enc]=some [.i (t.depth:Nat)]:=ug iW t (by omega) (by simp only[big];omega)
    simp only[this,decide_false,jS,hdep,ae,jI,jC,C.I_i]
    by_cases hd:t.depth≤20
    ·have hd':¬(t.depth:Int)>20:=by omega
     simp only[hd',decide_false,jS,jV]
     simp[hd,PR.ptr,PR.code]
    ·have hd':(t.depth:Int)>20:=by omega
     simp only[hd',decide_true,jR,jV]
     simp[hd,PR.ptr,PR.code]
end Go.Ev
namespace Go.Ev
def dI {α:Type} (p:α→Bool):List α→Nat→Int
 |[],_=>-1
 |x::r,n=>bif p x then n else dI p r (n+1)
def aN (p:Nat→Bool):Nat→Nat→Bool
 |_,0=>true
 |i,k+1=>p i&&aN p (i+1) k
theorem eS (p:Nat→Bool):∀(k i:Nat),aN p i k=true↔∀j,i≤j→j<i+k→p j=true
 |0,i=>by simp[aN];omega
 |k+1,i=>by
  simp only[aN,Bool.and_eq_true,eS p k (i+1)]
  constructor
  ·rintro ⟨h1,h2⟩ j hj hk
   rcases Nat.lt_or_eq_of_le hj with h|rfl
   ·exact h2 j h (by omega)
   ·exact h1
  ·intro h
   exact ⟨h i (Nat.le_refl _) (by omega),fun j h1 h2=>h j (by omega) (by omega)⟩
theorem eH {body:List C→R} {S:Nat→List C} {p:Nat→Bool} {n b:Nat} {ys r:List C} (hs:∀i,i<n→body (S i)=bif p i then some (.again (S (i+1))) else some (.ret r)) (he:body (S n)=some (.brk b ys)):
  ∀k i,k+i=n→lim body (S i)=bif aN p i k then some (.brk b ys) else some (.ret r)
 |0,i,h=>by
  have:i=n:=by omega
  subst this
  rw[aY he];rfl
 |k+1,i,h=>by
  have h1:=hs i (by omega)
  simp only[aN]
  cases hp:p i with
  |true=>
   rw[hp] at h1
   rw[aO h1,eH hs he k (i+1) (by omega)]
   simp
  |false=>
   rw[hp] at h1
   rw[rH h1]
   simp
theorem ep {body:List C→R} {S:Nat→List C} {n b:Nat} {ys:List C} (hs:∀i,i<n→body (S i)=some (.again (S (i+1)))) (he:body (S n)=some (.brk b ys)):
  ∀k i,k+i=n→lim body (S i)=some (.brk b ys)
 |0,i,h=>by
  have:i=n:=by omega
  subst this
  exact aY he
 |k+1,i,h=>by rw[aO (hs i (by omega))];exact ep hs he k (i+1) (by omega)
theorem iT {α:Type} {l:List α} {body:List C→R} {S:Nat→List C} {p:α→Bool} {b:Nat} (hs:∀i (h:i<l.length),body (S i)=bif p l[i] then some (.ret [.i (i:Nat)]) else some (.again (S (i+1)))) (he:body (S l.length)=some (.brk b [])):
  ∀k i,k+i=l.length→ax b (lim body (S i)) (fun _=>some (.ret [.i (-1)]))=some (.ret [.i (dI p (l.drop i) i)])
 |0,i,h=>by
  have:i=l.length:=by omega
  subst this
  rw[aY he];simp[dI]
 |k+1,i,h=>by
  have hi:i<l.length:=by omega
  have h1:=hs i hi
  rw[List.drop_eq_getElem_cons hi]
  simp only[dI]
  cases hp:p l[i] with
  |true=>rw[hp] at h1;rw[rH h1];simp
  |false=>rw[hp] at h1;rw[aO h1,iT hs he k (i+1) (by omega)];simp
def bIx (f:Fl) (nm:Str):Int:=dI (fun x:Bt=>sEq x.name nm) f.bts 0
def sIx (f:Fl) (nm:Str):Int:=dI (fun x:Sv=>sEq x.name nm) f.svs 0
def cIx (f:Fl) (nm:Str):Int:=dI (fun x:Cp=>sEq x.name nm) f.cps 0
theorem vl (f:Fl) (nm:Str) (hl:f.svs.length≤1048576):cP (f.e++[.s nm])=some [.i (sIx f nm)]:=by
 have h:=iT (l:=f.svs) (body:=apn 6 cP.d1) (S:=fun i=>[.s nm,.i (i:Nat),.b f.pack,.l (f.bts.map Bt.e),.l (f.svs.map Sv.e),.l (f.cps.map Cp.e)]) (p:=fun x=>sEq x.name nm) (b:=0)
  (fun i hi=>by
   simp only[apL,jC,jD,cP.d1,C.I_i,C.L_l,C.S_s,jW,jY,getD_map' Sv.e hi,w1 hi (show f.svs.length<big by simp only[big];omega)]
   simp only[Sv.e,jC,C.S_s]
   cases hs:sEq f.svs[i].name nm<;>simp only[sEq] at hs<;>simp[hs,hi])
  (by simp[cP.d1]) f.svs.length 0 rfl
 simp only[cP,cP.d3,Fl.e,jA,jB,apL,jC,jD]
 rw[show (fun xs:List C=>cP.d2)=fun _=>some (.ret [.i (-1)]) from rfl]
 erw[h]
 rfl
theorem gU (f:Fl) (nm:Str) (hl:f.bts.length≤1048576):cW (f.e++[.s nm])=some [.i (bIx f nm)]:=by
 have h:=iT (l:=f.bts) (body:=apn 6 cW.d1) (S:=fun i=>[.s nm,.i (i:Nat),.b f.pack,.l (f.bts.map Bt.e),.l (f.svs.map Sv.e),.l (f.cps.map Cp.e)]) (p:=fun x=>sEq x.name nm) (b:=0)
  (fun i hi=>by
   simp only[apL,jC,jD,cW.d1,C.I_i,C.L_l,C.S_s,jW,jY,getD_map' Bt.e hi,w1 hi (show f.bts.length<big by simp only[big];omega)]
   simp only[Bt.e,jC,C.S_s]
   cases hs:sEq f.bts[i].name nm<;>simp only[sEq] at hs<;>simp[hs,hi])
  (by simp[cW.d1]) f.bts.length 0 rfl
 simp only[cW,cW.d3,Fl.e,jA,jB,apL,jC,jD]
 rw[show (fun xs:List C=>cW.d2)=fun _=>some (.ret [.i (-1)]) from rfl]
 erw[h]
 rfl
theorem pq (f:Fl) (nm:Str) (hl:f.cps.length≤1048576):eI (f.e++[.s nm])=some [.i (cIx f nm)]:=by
 have h:=iT (l:=f.cps) (body:=apn 6 eI.d1) (S:=fun i=>[.s nm,.i (i:Nat),.b f.pack,.l (f.bts.map Bt.e),.l (f.svs.map Sv.e),.l (f.cps.map Cp.e)]) (p:=fun x=>sEq x.name nm) (b:=0)
  (fun i hi=>by
   simp only[apL,jC,jD,eI.d1,C.I_i,C.L_l,C.S_s,jW,jY,getD_map' Cp.e hi,w1 hi (show f.cps.length<big by simp only[big];omega)]
   simp only[Cp.e,jC,C.S_s]
   cases hs:sEq f.cps[i].name nm<;>simp only[sEq] at hs<;>simp[hs,hi])
  (by simp[eI.d1]) f.cps.length 0 rfl
 simp only[eI,eI.d3,Fl.e,jA,jB,apL,jC,jD]
 rw[show (fun xs:List C=>eI.d2)=fun _=>some (.ret [.i (-1)]) from rfl]
 erw[h]
 rfl
theorem h9 (f:Fl) (nm:Str) (hl:f.bts.length≤1048576):eG (f.e++[.s nm])=some [.i (bIx f nm)]:=by
 have h:=iT (l:=f.bts) (body:=apn 4 aF.d1) (S:=fun i=>[.l (f.bts.map Bt.e),.p [.s nm],.i (f.bts.length:Nat),.i (i:Nat)]) (p:=fun x=>sEq x.name nm) (b:=0)
  (fun i hi=>by
   simp only[apL,jC,jD,aF.d1,C.I_i,C.L_l,C.S_s,jW,jY,getD_map' Bt.e hi,w1 hi (show f.bts.length<big by simp only[big];omega)]
   simp only[Bt.e,jC,jD,gQ,gQ.d1,apL,C.S_s,C.s8,C.P_p,jR,jV,ae,jI,C.B_b]
   cases hs:sEq f.bts[i].name nm<;>simp only[sEq] at hs<;>simp[hs,hi])
  (by simp[aF.d1]) f.bts.length 0 rfl
 simp only[eG,eG.d1,aF,aF.d3,Fl.e,jA,jB,apL,jC,jD,C.L_l,jW]
 rw[show (fun xs:List C=>aF.d2)=fun _=>some (.ret [.i (-1)]) from rfl]
 erw[h]
 rfl
theorem nJ (f:Fl) (nm:Str) (hl:f.cps.length≤1048576):gZ (f.e++[.s nm])=some [.i (cIx f nm)]:=by
 have h:=iT (l:=f.cps) (body:=apn 4 aH.d1) (S:=fun i=>[.l (f.cps.map Cp.e),.p [.s nm],.i (f.cps.length:Nat),.i (i:Nat)]) (p:=fun x=>sEq x.name nm) (b:=0)
  (fun i hi=>by
   simp only[apL,jC,jD,aH.d1,C.I_i,C.L_l,C.S_s,jW,jY,getD_map' Cp.e hi,w1 hi (show f.cps.length<big by simp only[big];omega)]
   simp only[Cp.e,jC,jD,iK,iK.d1,apL,C.S_s,C.s8,C.P_p,jR,jV,ae,jI,C.B_b]
   cases hs:sEq f.cps[i].name nm<;>simp only[sEq] at hs<;>simp[hs,hi])
  (by simp[aH.d1]) f.cps.length 0 rfl
 simp only[gZ,gZ.d1,aH,aH.d3,Fl.e,jA,jB,apL,jC,jD,C.L_l,jW]
 rw[show (fun xs:List C=>aH.d2)=fun _=>some (.ret [.i (-1)]) from rfl]
 erw[h]
 rfl
def fP (s:Str):Str:=mkS (s.data.toList.takeWhile (· !=61))
def iU (s:Str):Str:=mkS (s.data.toList.dropWhile (· !=61)).tail
def qG (s:Str):Bool:=aX (fP s)&&((s.data.toList.dropWhile (· !=61)).isEmpty||aX (iU s))
theorem pA {s:Str} {l:List UInt8} (hl:s.size≤1048576) (h:l.length≤s.data.toList.length):(mkS l).size≤1048576:=by
 rw[mn];rw[cS] at hl;omega
theorem o7 (s:Str) (hl:s.size≤1048576):dE [.s s]=some [.s (fP s),.s (iU s),.b (qG s)]:=by
 have key:∀(k i:Nat),s.data.toList.length-i≤k→i≤s.data.toList.length→(s.data.toList.takeWhile (· !=61)).length=i+((s.data.toList.drop i).takeWhile (· !=61)).length→
   ax 0 (lim (apn 2 dE.d1) [.s s,.i i]) (apn 1 dE.d2)=some (.ret [.s (fP s),.s (iU s),.b (qG s)]):=by
  intro k
  induction k with
  |zero=>
   intro i hk hi hr
   have e:i=s.data.toList.length:=by omega
   have hd:s.data.toList.drop i=[]:=List.drop_eq_nil_of_le (by omega)
   rw[hd] at hr
   simp only[List.takeWhile_nil,List.length_nil,Nat.add_zero] at hr
   have hdw:s.data.toList.dropWhile (· !=61)=[]:=by rw[←j9,hr];exact List.drop_eq_nil_of_le (by omega)
   have htw:s.data.toList.takeWhile (· !=61)=s.data.toList:=by
    have:=List.takeWhile_append_dropWhile (p:=fun x:UInt8=>x !=61) (l:=s.data.toList)
    rw[hdw,List.append_nil] at this;exact this
   rw[aY (i:=0) (ys:=[.s s]) (by rw[e,←cS];simp[dE.d1])]
   have h1:fP s=s:=by unfold fP;rw[htw];rfl
   have h2:iU s=mkS []:=by unfold iU;rw[hdw];rfl
   simp[dE.d2,cx s hl,ae,qG,h1,h2,hdw,eu]
  |succ k ih=>
   intro i hk hi hr
   rcases Nat.lt_or_ge i s.data.toList.length with hlt|hge
   ·have his:i<s.size:=by rw[cS];exact hlt
    have hw:=w1 his (show s.size<big by simp only[big];omega)
    have hd:=List.drop_eq_getElem_cons hlt
    rw[hd,List.takeWhile_cons] at hr
    by_cases hc:s.data.toList[i]=61
    ·have hb:(s.data.toList[i] !=61)=false:=by rw[hc];rfl
     rw[hb] at hr
     simp only[Bool.false_eq_true,if_false,List.length_nil,Nat.add_zero] at hr
     have h1:s.extract 0 i=fP s:=by
      rw[kG,List.drop_zero];unfold fP;rw[←hr,oV]
     have h2:s.extract (i+1) s.size=iU s:=by
      rw[kG,cS,List.take_length];unfold iU
      rw[←j9,hr,List.tail_drop]
     have hn1:(fP s).size≤1048576:=pA hl (pH _ _)
     have hn2:(iU s).size≤1048576:=pA hl (by
      have:=(List.dropWhile_suffix (l:=s.data.toList) (· !=61)).length_le
      rw[List.length_tail];omega)
     have hdw:(s.data.toList.dropWhile (· !=61)).isEmpty=false:=by
      rw[←j9,hr,hd];rfl
     have e1:(i:Int)≤(s.size:Int):=by omega
     have e2:((i+1:Nat):Int)≤(s.size:Int):=by omega
     have hbn:=bn s.data.toList[i] 61 61 rfl
     have hbt:(s.data.toList[i]==61)=true:=by rw[hc];rfl
     have h:apn 2 dE.d1 [.s s,.i i]=some (.ret [.s (fP s),.s (iU s),.b (qG s)]):=by
      simp only[apL,jC,jD,dE.d1,C.I_i,C.S_s,jY,dW hlt,hw,hbn,hbt,h1,h2,cx _ hn1,cx _ hn2,ae,jI,C.B_b,e1,e2,decide_true,jR,jX,Int.le_refl,qG,hdw,Bool.false_or]
      cases aX (fP s)<;>simp[his]
     rw[rH h];simp
    ·have hb:(s.data.toList[i] !=61)=true:=by rw[bne_iff_ne];exact hc
     rw[hb] at hr
     simp only[if_true,List.length_cons] at hr
     have hbn:=bn s.data.toList[i] 61 61 rfl
     have hbf:(s.data.toList[i]==61)=false:=by rw[beq_eq_false_iff_ne];exact hc
     have h:apn 2 dE.d1 [.s s,.i i]=some (.again [.s s,.i (i+1:Nat)]):=by
      simp only[apL,jC,jD,dE.d1,C.I_i,C.S_s,jY,dW hlt,hw,hbn,hbf]
      simp[his]
     rw[aO h]
     exact ih (i+1) (by omega) (by omega) (by omega)
   ·exact ih i (by omega) hi hr
 have:=key _ 0 (Nat.le_refl _) (Nat.zero_le _) (by simp)
 simp only[dE,dE.d3,apL,jC]
 erw[this]
 rfl
theorem ri:∀l:List UInt8,Lib.indexByte l 61=if (l.dropWhile (· !=61)).isEmpty then-1 else ((l.takeWhile (· !=61)).length:Int)
 |[]=>rfl
 |c::r=>by
  simp only[Lib.indexByte,ri r,List.dropWhile_cons,List.takeWhile_cons]
  by_cases hc:c=61
  ·subst hc;simp
  ·have hb:(c !=61)=true:=by simp[hc]
   have hb2:(c==61)=false:=by simp[hc]
   rw[hb,hb2]
   simp only[if_true,Bool.false_eq_true,if_false]
   cases (r.dropWhile (· !=61)).isEmpty with
   |true=>simp
   |false=>
    have:¬((((r.takeWhile (· !=61)).length:Int)==-1)=true):=by rw[beq_iff_eq];omega
    simp only[Bool.false_eq_true,if_false,if_neg this,List.length_cons]
    omega
theorem A9 (s:Str) (hl:s.size≤1048576):nv [.s s]=some [.s (fP s),.s (iU s),.b (qG s)]:=by
 have e1:(bs #[61]).size=1:=rfl
 have e2:(bs #[61]).data.getD 0 0=61:=rfl
 have hix:aS [.s s,.s (bs #[61])]=some [.i (Lib.indexByte s.data.toList 61)]:=by
  have e3:Nat.toUInt8 (((61:UInt8).toNat:Nat):Int).toNat=61:=rfl
  have e5:((((1:Nat):Int)==0))=false:=rfl
  have e6:((((1:Nat):Int)==1))=true:=rfl
  have e7:(0:Int)<((1:Nat):Int):=by omega
  simp only[aS,aS.d2,apL,jC,jD,C.S_s,e1,e5,ja,jR,jJ]
  cases hq:((bs #[61]).toList==s.toList) with
  |true=>
   have:bs #[61]=s:=(fb (bs #[61]) s).1 hq
   subst this
   simp[aS.d1]
   decide
  |false=>
   simp only[aS.d1,C.B_b,C.I_i,C.S_s,jS,jR,e1,e6,e7,decide_true,e2,eh,ibF,jC,jD,e3,ae,jI,jV]
 rw[ri] at hix
 have hn1:(fP s).size≤1048576:=pA hl (pH _ _)
 have hn2:(iU s).size≤1048576:=pA hl (by
  have:=(List.dropWhile_suffix (l:=s.data.toList) (· !=61)).length_le
  rw[List.length_tail];omega)
 simp only[nv,nv.d1,iS,iS.d1,cO,cO.d1,apL,jC,jD,hix,ae,jI,C.I_i,C.S_s,e1]
 cases he:(s.data.toList.dropWhile (· !=61)).isEmpty with
 |true=>
  have hdw:s.data.toList.dropWhile (· !=61)=[]:=by simpa using he
  have htw:s.data.toList.takeWhile (· !=61)=s.data.toList:=by
   have:=List.takeWhile_append_dropWhile (p:=fun x:UInt8=>x !=61) (l:=s.data.toList)
   rw[hdw,List.append_nil] at this;exact this
  have h1:fP s=s:=by unfold fP;rw[htw];rfl
  have h2:iU s=mkS []:=by unfold iU;rw[hdw];rfl
  have e8:¬((-1:Int)≥0):=by omega
  simp only[if_true,e8,decide_false,jS,jV,call3,jI,jC,jD,C.B_b,fE s hl,qG,he,Bool.true_or,Bool.and_true,h1,h2,eu]
  cases aX s<;>simp
 |false=>
  have hlt:(s.data.toList.takeWhile (· !=61)).length<s.data.toList.length:=by
   have h:=congrArg List.length (List.takeWhile_append_dropWhile (p:=fun x:UInt8=>x !=61) (l:=s.data.toList))
   rw[List.length_append] at h
   cases hq:s.data.toList.dropWhile (· !=61) with
   |nil=>rw[hq] at he;simp at he
   |cons x r=>rw[hq] at h;simp only[List.length_cons] at h;omega
  have his:(s.data.toList.takeWhile (· !=61)).length<s.size:=by rw[cS];exact hlt
  have hw:=w1 his (show s.size<big by simp only[big];omega)
  have h1:s.extract 0 (s.data.toList.takeWhile (· !=61)).length=fP s:=by
   rw[kG,List.drop_zero];unfold fP;rw[oV]
  have h2:s.extract ((s.data.toList.takeWhile (· !=61)).length+1) s.size=iU s:=by
   rw[kG,cS,List.take_length];unfold iU
   rw[←j9,List.tail_drop]
  have e3:(((s.data.toList.takeWhile (· !=61)).length:Int)≥0):=by omega
  have e4:((s.data.toList.takeWhile (· !=61)).length:Int)≤(s.size:Int):=by omega
  have e5:(((s.data.toList.takeWhile (· !=61)).length+1:Nat):Int)≤(s.size:Int):=by omega
  have e6:((1:Nat):Int)=1:=rfl
  simp only[Bool.false_eq_true,if_false,e6,hw,e3,e4,e5,decide_true,jR,jX,Int.le_refl,jY,h1,h2,jV,call3,jI,jC,jD,C.B_b,fE _ hn1,fE _ hn2,qG,he,Bool.false_or,jZ,ja]
  cases aX (fP s)<;>cases aX (iU s)<;>simp
end Go.Ev
namespace Go.Ev
def sLt (a b:Str):Bool:=Op.bytesLess a.toList b.toList
theorem qf:∀(a b:List UInt8),(Op.bytesLess a b||a==b)=!Op.bytesLess b a
 |[],[]=>by simp[Op.bytesLess]
 |[],_::_=>by simp[Op.bytesLess]
 |_::_,[]=>by simp[Op.bytesLess]
 |x::a,y::b=>by
  have ih:=qf a b
  simp only[Op.bytesLess]
  rcases Nat.lt_trichotomy x.toNat y.toNat with h|h|h
  ·have h1:x<y:=h
   have h2:¬y<x:=fun h'=>Nat.lt_asymm h h'
   have h3:¬y=x:=fun e=>by subst e;exact Nat.lt_irrefl _ h
   simp[h1,h2,h3]
  ·have e:x=y:=UInt8.toNat_inj.1 h
   subst e
   have:¬x<x:=Nat.lt_irrefl x.toNat
   simp only[this,decide_false,beq_self_eq_true,Bool.false_or,Bool.true_and]
   simpa using ih
  ·have h1:¬x<y:=fun h'=>Nat.lt_asymm h h'
   have h2:y<x:=h
   have h3:¬x=y:=fun e=>by subst e;exact Nat.lt_irrefl _ h
   simp[h1,h2,h3]
theorem Fm (a b:Str):(sLt a b||sEq a b)=!sLt b a:=qf _ _
theorem pC (z v:C) (k k':Str):∀es:List (List C),kK z k (lI k' v es)=bif sEq k k' then v else kK z k es
 |[]=>by simp[lI,kK,sEq]
 |r::es=>by
  simp only[lI]
  cases h:(k'.toList==(r.getD 0 .nil).S.toList) with
  |true=>
   have e:k'=(r.getD 0 .nil).S:=(fb _ _).1 h
   simp only[jR,kK,jC,jD,C.S_s]
   cases hk:sEq k k' with
   |true=>
    have h1:(k.toList==k'.toList)=true:=hk
    rw[h1];rfl
   |false=>
    have h1:(k.toList==k'.toList)=false:=hk
    have h2:(k.toList==(r.getD 0 .nil).S.toList)=false:=by rw[←e];exact hk
    rw[h1,h2];rfl
  |false=>
   simp only[jS,kK,pC z v k k' es]
   cases h2:sEq k k' with
   |true=>
    have e:=(fb _ _).1 h2
    subst e
    rw[h];rfl
   |false=>simp
theorem vS (a b:Str):sEq a b=sEq b a:=by
 rw[Bool.eq_iff_iff,fb,fb];exact eq_comm
def sAt (ms:List Str) (i:Nat):Str:=ms.getD i (mkS [])
theorem hP {ms:List Str} {i:Nat} (h:i<ms.length):sAt ms i=ms[i]:=by
 unfold sAt;rw[List.getD_eq_getElem?_getD,List.getElem?_eq_getElem h];rfl
def uD (ms:List Str) (nm:Str) (i:Nat):Bool:=aN (fun k=>!sEq (fP (sAt ms k)) nm) 0 i
def mh (ms:List Str) (i:Nat):Bool:=qG (sAt ms i)&&(i==0||sLt (sAt ms (i-1)) (sAt ms i))&&uD ms (fP (sAt ms i)) i
def pK (ms:List Str):Bool:=decide (ms.length≤10)&&aN (mh ms) 0 ms.length
theorem qS (p:Nat→Bool):∀(k i:Nat),aN p i (k+1)=(aN p i k&&p (i+k))
 |0,i=>by simp[aN]
 |k+1,i=>by
  rw[aN,qS p k (i+1),aN]
  rw[show i+1+k=i+(k+1) by omega,Bool.and_assoc]
section
variable {ms:List Str} (hz:zJ 1048576 ms)
include hz
theorem Ia (i:Nat) (hi:i≤ms.length) (nm:Str):∀k j,k+j=i→lim (apn 4 bf.d1) [.l (ms.map sE),.i (i:Nat),.s nm,.i (j:Nat)]=bif aN (fun k=>!sEq (fP (sAt ms k)) nm) j k then some (.brk 2 [.l (ms.map sE),.i (i:Nat),.s nm]) else some (.ret [.b false]):=by
 have hl:ms.length<big:=by have:=hz.1;simp only[big];omega
 refine eH (S:=fun j=>[.l (ms.map sE),.i (i:Nat),.s nm,.i (j:Nat)]) (fun j hj=>?_) ?_
 ·have hjl:j<ms.length:=by omega
  have hsz:(sAt ms j).size≤1048576:=by rw[hP hjl];exact hz.2 _ (List.getElem_mem hjl)
  have hjI:(j:Int)<(i:Int):=by omega
  simp only[apL,jC,jD,bf.d1,C.I_i,C.L_l,jW,jY,getD_map' sE hjl,←hP hjl,w1 hjl hl]
  simp only[sE,jC,o7 _ hsz,call3,jI,C.S_s,jD]
  cases hq:sEq (fP (sAt ms j)) nm<;>simp only[sEq] at hq<;>simp[hq,hj,hjl]
 ·simp[bf.d1]
theorem vf:bf [.l (ms.map sE)]=some [.b (pK ms)]:=by
 have hl:ms.length<big:=by have:=hz.1;simp only[big];omega
 have h:=eH (body:=apn 3 bf.d4) (S:=fun i=>[.l (ms.map sE),.s (bif i==0 then mkS [] else fP (sAt ms (i-1))),.i (i:Nat)]) (p:=mh ms) (n:=ms.length) (b:=0) (ys:=[]) (r:=[.b false])
  (fun i hi=>by
   have hsz:(sAt ms i).size≤1048576:=by rw[hP hi];exact hz.2 _ (List.getElem_mem hi)
   have hd3:∀nm:Str,bf.d3 (.l (ms.map sE)) (.i (i:Nat)) (.s nm)=bif uD ms nm i then some (.again [.l (ms.map sE),.s nm,.i (i+1:Nat)]) else some (.ret [.b false]):=fun nm=>by
    have:=Ia hz i (by omega) nm i 0 (by omega)
    simp only[Int.natCast_zero] at this
    simp only[bf.d3,this,uD]
    cases aN (fun k=>!sEq (fP (sAt ms k)) nm) 0 i<;>simp[bf.d2,w1 hi hl]
   simp only[apL,jC,jD,bf.d4,C.I_i,C.L_l,jW,jY,getD_map' sE hi,←hP hi]
   simp only[sE,jC,o7 _ hsz,call3,jI,C.S_s,jD,C.B_b,Nat.add_sub_cancel]
   rcases Nat.eq_zero_or_pos i with h0|h0
   ·subst h0
    cases hok:qG (sAt ms 0) with
    |false=>simp[hok,mh,hi]
    |true=>
     have:=hd3 (fP (sAt ms 0))
     simp only[Int.natCast_zero] at this
     simp[hok,mh,hi,this,uD,aN]
   ·have hi1:i-1<ms.length:=by omega
    have hw:w64 ((i:Int)-1)=((i-1:Nat):Int):=by rw[aZ (by omega) (by simp only[big] at hl;omega)];omega
    have e1:((i:Int)>0):=by omega
    have e2:(((i-1:Nat):Int)<(ms.length:Int)):=by omega
    have e3:((i:Int)<(ms.length:Int)):=by omega
    have e4:(i==0)=false:=by simp;omega
    have e5:(i+1==0)=false:=by simp
    simp only[hw,jY,getD_map' sE hi1,←hP hi1,e1,e2,e3,e4,e5,decide_true,jR,jS,jX,sE,jC,C.S_s,mh,Bool.false_or]
    show (bR (bif (!(!qG (sAt ms i))) then (bif (!(!sLt (sAt ms (i-1)) (sAt ms i))) then (bif sEq (fP (sAt ms i)) (fP (sAt ms (i-1))) then _ else _) else _) else _) _)=_
    cases hok:qG (sAt ms i) with
    |false=>simp
    |true=>
     cases hlt:sLt (sAt ms (i-1)) (sAt ms i) with
     |false=>simp
     |true=>
      cases hq:sEq (fP (sAt ms i)) (fP (sAt ms (i-1))) with
      |false=>simp[hd3]
      |true=>
       have:uD ms (fP (sAt ms i)) i=false:=by
        cases hdu:uD ms (fP (sAt ms i)) i with
        |false=>rfl
        |true=>
         have:=(eS _ _ _).1 hdu (i-1) (by omega) (by omega)
         simp only[Bool.not_eq_true'] at this
         rw[(fb _ _).1 hq] at this
         have h2:=(fb (fP (sAt ms (i-1))) (fP (sAt ms (i-1)))).2 rfl
         rw[h2] at this;simp at this
       simp[this])
  (by simp[bf.d4]) ms.length 0 rfl
 simp only[Int.natCast_zero] at h
 have h:lim (apn 3 bf.d4) [.l (ms.map sE),.s (bs #[]),.i 0]=_:=h
 simp only[bf,bf.d6,apL,jC,C.L_l,jW,h,pK]
 by_cases h10:(ms.length:Int)>10
 ·have:¬ms.length≤10:=by omega
  simp[h10,this]
 ·have:ms.length≤10:=by omega
  simp only[h10,this,decide_true,decide_false,jS,Bool.true_and]
  cases aN (mh ms) 0 ms.length<;>simp[bf.d5]
def AM (ms:List Str):Nat→List (List C)
 |0=>[]
 |i+1=>lI (fP (sAt ms i)) (.b true) (AM ms i)
omit hz in
theorem zg (nm:Str):∀i,(kK (.b false) nm (AM ms i)).B=!uD ms nm i
 |0=>rfl
 |i+1=>by
  have hd:uD ms nm (i+1)=(uD ms nm i&&!sEq (fP (sAt ms i)) nm):=by
   unfold uD;rw[qS];simp
  rw[AM,pC,hd,vS]
  have ih:=zg nm i
  cases h:sEq (fP (sAt ms i)) nm<;>simp[ih]
omit hz in
theorem rR (a b:Str):((Op.bytesLess b.toList a.toList)||(b.toList==a.toList))=!sLt a b:=by
 have:=Fm b a
 exact this
theorem E3 (name zone:Str) (room hold:Int) (shut:Bool):lim (apn 10 du.d1) [.l (ms.map sE),.i (ms.length:Nat),.i 0,.s name,.s zone,.l (ms.map sE),.i room,.i hold,.b shut,.l []]=
  bif aN (mh ms) 0 ms.length then some (.brk 0 []) else some (.ret [.b false]):=by
 have h:=fun hl:ms.length<big=>eH (body:=apn 10 du.d1) (S:=fun i=>[.l (ms.map sE),.i (ms.length:Nat),.i (i:Nat),.s name,.s zone,.l (ms.map sE),.i room,.i hold,.b shut,.l (AM ms i)]) (p:=mh ms) (n:=ms.length) (b:=0) (ys:=[]) (r:=[.b false])
  (fun i hi=>by
   have hsz:(sAt ms i).size≤1048576:=by rw[hP hi];exact hz.2 _ (List.getElem_mem hi)
   have e3:((i:Int)<(ms.length:Int)):=by omega
   simp only[apL,jC,jD,du.d1,C.I_i,C.L_l,jW,jY,getD_map' sE hi,←hP hi,w1 hi hl,e3,decide_true,jR,jX]
   simp only[sE,jC,A9 _ hsz,call3,jI,C.S_s,jD,C.B_b,zg,Bool.not_not,mh]
   cases hok:qG (sAt ms i) with
   |false=>simp
   |true=>
    cases hdu:uD ms (fP (sAt ms i)) i with
    |false=>simp
    |true=>
     rcases Nat.eq_zero_or_pos i with h0|h0
     ·subst h0;simp[AM]
     ·have hi1:i-1<ms.length:=by omega
      have hw:w64 ((i:Int)-1)=((i-1:Nat):Int):=by rw[aZ (by omega) (by simp only[big] at hl;omega)];omega
      have e1:((i:Int)>0):=by omega
      have e2:(((i-1:Nat):Int)<(ms.length:Int)):=by omega
      have e4:(i==0)=false:=by simp;omega
      simp only[hw,jY,getD_map' sE hi1,←hP hi1,e1,e2,e4,decide_true,jR,jX,sE,jC,C.S_s,rR,Bool.false_or,jZ,ja,jS,Bool.true_and,Bool.and_true]
      cases sLt (sAt ms (i-1)) (sAt ms i)<;>simp[AM])
  (by simp[du.d1]) ms.length 0 rfl
 have h:=h (by have:=hz.1;simp only[big];omega)
 simpa [AM] using h
end
def dV (b:Bt):Bool:=aX b.name&&(aX b.zone&&(pK b.marks&&(within b.room 0 1000&&within b.hold 0 1000)))
theorem vH (b:Bt) (hz:b.Sz 1048576):gL b.e=some [.b (dV b)]:=by
 simp only[gL,gL.d1,Bt.e,apL,jC,jD,cx _ hz.1,cx _ hz.2.1,vf hz.2.2,eT,ae,jI,C.B_b,dV]
 cases aX b.name<;>cases aX b.zone<;>cases pK b.marks<;>cases within b.room 0 1000<;>simp
theorem wR (b:Bt) (hz:b.Sz 1048576):du b.e=some [.b (dV b)]:=by
 have hm:=E3 (ms:=b.marks) hz.2.2 b.name b.zone b.room b.hold b.shut
 simp only[du,du.d3,Bt.e,apL,jC,jD,fE _ hz.1,fE _ hz.2.1,l5,ae,jI,C.B_b,C.L_l,jW,ah,hm,dV,pK]
 by_cases h10:(b.marks.length:Int)>10
 ·have:¬b.marks.length≤10:=by omega
  simp only[h10,this,decide_true,decide_false]
  cases aX b.name<;>cases aX b.zone<;>simp
 ·have:b.marks.length≤10:=by omega
  simp only[h10,this,decide_true,decide_false]
  cases aX b.name<;>cases aX b.zone<;>cases within b.room 0 1000<;>cases within b.hold 0 1000<;>cases aN (mh b.marks) 0 b.marks.length<;>simp[du.d2]
end Go.Ev
namespace Go.Ev
def lO (s:Str):Bool:=(pp s).code==0
def iI (x:Lk):Bool:=lO x.sel&&within x.w (-9) 9
def yQ (s:Str):Bool:=sEq s (mkS [])||aX s
def ju (c:Cp):Bool:=
 aX c.name&&(within c.rank 0 100&&(within c.born 0 1000000&&(within c.room 0 1000&&(within c.hold 0 1000&&(decide (c.likes.length≤5)&&(within c.apart 0 2&&(yQ c.near&&(yQ c.fixed&&(lO c.sel&&c.likes.all iI)))))))))
theorem nW (s:Str) (hl:s.size≤1048576):fB [.s s]=some [.b (lO s)]:=by
 simp only[fB,fB.d1,apL,jC,nO s hl,call2,jI,jD,C.I_i,jV,lO]
 have:(((pp s).code:Int)==0)=((pp s).code==0):=by
  rw[Bool.eq_iff_iff,beq_iff_eq,beq_iff_eq];omega
 rw[this]
def rq (l:List Lk) (i:Nat):Bool:=match l[i]? with|some x=>iI x|none=>true
theorem xa (l:List Lk):aN (rq l) 0 l.length=l.all iI:=by
 rw[Bool.eq_iff_iff,eS,List.all_eq_true]
 constructor
 ·intro h x hx
  obtain ⟨i,hi,rfl⟩:=List.getElem_of_mem hx
  have:=h i (Nat.zero_le _) (by omega)
  simpa [rq,hi] using this
 ·intro h i _ hi
  have hi:i<l.length:=by omega
  simpa [rq,hi] using h _ (List.getElem_mem hi)
theorem E2 (c:Cp) (hz:c.Sz 1048576) (K:List C→R):ax 0 (lim (apn 13 bU.d1) ([.i 0]++c.e)) K=bif c.likes.all iI then K [] else some (.ret [.b false]):=by
 have hl:c.likes.length<big:=by have:=hz.2.2.2.2.2.2.1;simp only[big];omega
 have h:=eH (body:=apn 13 bU.d1) (S:=fun i=>[.i (i:Nat)]++c.e) (p:=rq c.likes) (n:=c.likes.length) (b:=0) (ys:=[]) (r:=[.b false])
  (fun i hi=>by
   have hsz:=hz.2.2.2.2.2.2.2 _ (List.getElem_mem hi)
   have e3:((i:Int)<(c.likes.length:Int)):=by omega
   have hp:rq c.likes i=iI c.likes[i]:=by simp[rq,hi]
   simp only[Cp.e,jA,jB,apL,jC,jD,bU.d1,C.I_i,C.L_l,jW,jY,getD_map' Lk.e hi,w1 hi hl,e3,decide_true,jR,jX,hp,iI]
   simp only[Lk.e,jC,jD,nW _ hsz,eT,ae,jI,C.B_b]
   cases lO c.likes[i].sel<;>cases within c.likes[i].w (-9) 9<;>simp)
  (by simp[bU.d1,Cp.e]) c.likes.length 0 rfl
 simp only[Int.natCast_zero] at h
 rw[h,xa]
 cases c.likes.all iI<;>simp
theorem wV (c:Cp) (hz:c.Sz 1048576):bU c.e=some [.b (aX c.svc&&ju c)]:=by
 obtain ⟨z1,z2,z3,z4,z5,z6,z7,z8⟩:=hz
 have hlp:=E2 c ⟨z1,z2,z3,z4,z5,z6,z7,z8⟩ (fun xs=>bU.d2)
 simp only[Cp.e,jA,jB] at hlp
 have q1:(c.near.toList==(bs #[]).toList)=sEq c.near (mkS []):=rfl
 have q2:(c.fixed.toList==(bs #[]).toList)=sEq c.fixed (mkS []):=rfl
 simp only[bU,bU.d4,Cp.e,apL,jC,jD,cx _ z1,cx _ z2,cx _ z4,cx _ z5,eT,nW _ z3,ae,jI,C.B_b,C.L_l,C.S_s,jW,ju,yQ,q1,q2]
 have e5:decide ((c.likes.length:Int)>5)=!decide (c.likes.length≤5):=by
  by_cases h:c.likes.length≤5
  ·have:¬((c.likes.length:Int)>5):=by omega
   simp[h,this]
  ·have:((c.likes.length:Int)>5):=by omega
   simp[h,this]
 rw[e5]
 cases aX c.name with
 |false=>simp
 |true=>
 cases aX c.svc with
 |false=>simp
 |true=>
 cases within c.rank 0 100 with
 |false=>simp
 |true=>
 cases within c.born 0 1000000 with
 |false=>simp
 |true=>
 cases within c.room 0 1000 with
 |false=>simp
 |true=>
 cases within c.hold 0 1000 with
 |false=>simp
 |true=>
 simp only[jZ,ja,jR,jS,Bool.true_and]
 cases lO c.sel with
 |false=>simp[bU.d3]
 |true=>
 cases decide (c.likes.length≤5) with
 |false=>simp[bU.d3]
 |true=>
 cases within c.apart 0 2 with
 |false=>simp[bU.d3]
 |true=>
 simp only[jZ,ja,jR,jS,Bool.true_and]
 cases sEq c.near (mkS [])<;>cases aX c.near<;>cases sEq c.fixed (mkS [])<;>cases aX c.fixed<;>simp[bU.d3,hlp]<;>cases c.likes.all iI<;>simp[bU.d2]
theorem Fu (l:List Lk) (hz:l.length≤1048576∧∀x,x∈l→x.sel.size≤1048576) (K:List C→R):ax 0 (lim (apn 3 cN.d1) [.l (l.map Lk.e),.i (l.length:Nat),.i 0]) K=bif l.all iI then K [] else some (.ret [.b false]):=by
 have hl:l.length<big:=by have:=hz.1;simp only[big];omega
 have h:=eH (body:=apn 3 cN.d1) (S:=fun i=>[.l (l.map Lk.e),.i (l.length:Nat),.i (i:Nat)]) (p:=rq l) (n:=l.length) (b:=0) (ys:=[]) (r:=[.b false])
  (fun i hi=>by
   have hsz:=hz.2 _ (List.getElem_mem hi)
   have e3:((i:Int)<(l.length:Int)):=by omega
   have hp:rq l i=iI l[i]:=by simp[rq,hi]
   have hc:(((pp l[i].sel).code:Int) !=0)=!lO l[i].sel:=by
    unfold lO bne
    congr 1
    rw[Bool.eq_iff_iff,beq_iff_eq,beq_iff_eq];omega
   simp only[apL,jC,jD,cN.d1,C.I_i,C.L_l,jW,jY,getD_map' Lk.e hi,w1 hi hl,e3,decide_true,jR,jX,hp,iI]
   simp only[Lk.e,jC,jD,tl _ hsz,l5,ae,call2,jI,C.B_b,C.I_i,hc]
   cases lO l[i].sel<;>cases within l[i].w (-9) 9<;>simp)
  (by simp[cN.d1]) l.length 0 rfl
 simp only[Int.natCast_zero] at h
 rw[h,xa]
 cases l.all iI<;>simp
theorem yB (c:Cp) (hz:c.Sz 1048576):cN c.e=some [.b (ju c)]:=by
 obtain ⟨z1,z2,z3,z4,z5,z6,z7⟩:=hz
 have hlp:=Fu c.likes z7 (fun xs=>cN.d2)
 have q1:(c.near.toList==(bs #[]).toList)=sEq c.near (mkS []):=rfl
 have q2:(c.fixed.toList==(bs #[]).toList)=sEq c.fixed (mkS []):=rfl
 have hc:(((pp c.sel).code:Int) !=0)=!lO c.sel:=by
  unfold lO bne
  congr 1
  rw[Bool.eq_iff_iff,beq_iff_eq,beq_iff_eq];omega
 simp only[cN,cN.d4,Cp.e,apL,jC,jD,fE _ z1,fE _ z4,fE _ z5,l5,ae,jI,C.B_b,C.L_l,C.S_s,jW,ju,yQ,q1,q2]
 have e5:decide ((c.likes.length:Int)>5)=!decide (c.likes.length≤5):=by
  by_cases h:c.likes.length≤5
  ·have:¬((c.likes.length:Int)>5):=by omega
   simp[h,this]
  ·have:((c.likes.length:Int)>5):=by omega
   simp[h,this]
 rw[e5]
 have hd3:∀b:Bool,cN.d3 (.b b) (.s c.name) (.s c.svc) (.i c.rank) (.i c.born) (.i c.room) (.i c.hold) (.s c.sel) (.l (c.likes.map Lk.e)) (.i c.apart) (.s c.near) (.s c.fixed) (.s c.at_)=bif b then some (.ret [.b false]) else bif lO c.sel&&c.likes.all iI then some (.ret [.b true]) else some (.ret [.b false]):=fun b=>by
  simp only[cN.d3,C.B_b,tl _ z3,call2,jI,jC,jD,C.I_i,hc,C.L_l,jW,hlp]
  cases b<;>cases lO c.sel<;>cases c.likes.all iI<;>simp[cN.d2]
 cases aX c.name with
 |false=>simp[hd3]
 |true=>
 cases within c.rank 0 100 with
 |false=>simp[hd3]
 |true=>
 cases within c.born 0 1000000 with
 |false=>simp[hd3]
 |true=>
 cases within c.room 0 1000 with
 |false=>simp[hd3]
 |true=>
 cases within c.hold 0 1000 with
 |false=>simp[hd3]
 |true=>
 simp only[jZ,ja,jR,jS,Bool.true_and]
 cases decide (c.likes.length≤5) with
 |false=>simp[hd3]
 |true=>
 cases within c.apart 0 2 with
 |false=>simp[hd3]
 |true=>
 simp only[jZ,ja,jR,jS,Bool.true_and]
 cases sEq c.near (mkS [])<;>cases aX c.near<;>cases sEq c.fixed (mkS [])<;>cases aX c.fixed<;>simp[hd3]<;>cases lO c.sel&&c.likes.all iI<;>simp
def nR (l:List Cp) (nm:Str):Nat→Int
 |0=>0
 |i+1=>match l[i]? with
  |some c=>bif sEq c.at_ nm then w64 (nR l nm i+c.room) else nR l nm i
  |none=>nR l nm i
def nK (l:List Cp) (nm:Str):Nat→Int
 |0=>0
 |i+1=>match l[i]? with
  |some c=>bif sEq c.at_ nm then w64 (nK l nm i+c.hold) else nK l nm i
  |none=>nK l nm i
def used (f:Fl) (nm:Str):Int×Int:=bif sEq nm (mkS [])||decide (bIx f nm<0) then (0,0) else (nR f.cps nm f.cps.length,nK f.cps nm f.cps.length)
theorem vE (f:Fl) (nm:Str) (hz:f.Sz 1048576):bI (f.e++[.s nm])=some [.i (used f nm).1,.i (used f nm).2]:=by
 have hl:f.cps.length<big:=by have:=hz.2.2.1;simp only[big];omega
 have hb:=gU f nm hz.1.1
 have q1:(nm.toList==(bs #[]).toList)=sEq nm (mkS []):=rfl
 simp only[Fl.e,jA,jB] at hb
 simp only[bI,bI.d4,Fl.e,jA,jB,apL,jC,jD,hb,ae,jI,C.I_i,used]
 cases hlt:decide (bIx f nm<0) with
 |true=>simp
 |false=>
  simp only[jS,Bool.or_false]
  cases he:sEq nm (mkS []) with
  |true=>
   have h:=ep (body:=apn 8 bI.d2) (S:=fun i=>[.s nm,.i 0,.i 0,.i (i:Nat),.b f.pack,.l (f.bts.map Bt.e),.l (f.svs.map Sv.e),.l (f.cps.map Cp.e)]) (n:=f.cps.length) (b:=0) (ys:=[.i 0,.i 0])
    (fun i hi=>by
     have e3:((i:Int)<(f.cps.length:Int)):=by omega
     simp only[apL,jC,jD,bI.d2,bI.d1,C.I_i,C.L_l,C.S_s,jW,q1,he,e3,decide_true,jR,jZ,jS,jJ,C.B_b,w1 hi hl])
    (by simp[bI.d2]) f.cps.length 0 rfl
   simp only[Int.natCast_zero] at h
   rw[h]
   simp[bI.d3]
  |false=>
   have h:=ep (body:=apn 8 bI.d2) (S:=fun i=>[.s nm,.i (nR f.cps nm i),.i (nK f.cps nm i),.i (i:Nat),.b f.pack,.l (f.bts.map Bt.e),.l (f.svs.map Sv.e),.l (f.cps.map Cp.e)]) (n:=f.cps.length) (b:=0) (ys:=[.i (nR f.cps nm f.cps.length),.i (nK f.cps nm f.cps.length)])
    (fun i hi=>by
     have e3:((i:Int)<(f.cps.length:Int)):=by omega
     simp only[apL,jC,jD,bI.d2,bI.d1,C.I_i,C.L_l,C.S_s,jW,jY,getD_map' Cp.e hi,q1,he,e3,decide_true,jR,ja,jX,jJ,C.B_b,w1 hi hl,nR,nK,List.getElem?_eq_getElem hi]
     simp only[Cp.e,jC,jD,C.S_s,C.I_i]
     show (bif sEq f.cps[i].at_ nm then _ else _)=_
     cases sEq f.cps[i].at_ nm<;>simp)
    (by simp[bI.d2]) f.cps.length 0 rfl
   simp only[Int.natCast_zero,nR,nK] at h
   rw[h]
   simp[bI.d3]
theorem vC (f:Fl) (nm:Str) (hz:f.Sz 1048576):dh (f.e++[.s nm])=some [.i (used f nm).1,.i (used f nm).2]:=by
 have hl:f.cps.length<big:=by have:=hz.2.2.1;simp only[big];omega
 have hb:=h9 f nm hz.1.1
 have q1:(nm.toList==(bs #[]).toList)=sEq nm (mkS []):=rfl
 simp only[Fl.e,jA,jB] at hb
 simp only[dh,dh.d3,Fl.e,jA,jB,apL,jC,jD,C.S_s,q1,hb,ae,jI,C.I_i,C.L_l,jW,used]
 cases he:sEq nm (mkS []) with
 |true=>simp
 |false=>
  simp only[ja,jR,Bool.false_or]
  cases hlt:decide (bIx f nm<0) with
  |true=>simp
  |false=>
   have h:=ep (body:=apn 6 dh.d1) (S:=fun i=>[.s nm,.i (nR f.cps nm i),.i (nK f.cps nm i),.l (f.cps.map Cp.e),.i (f.cps.length:Nat),.i (i:Nat)]) (n:=f.cps.length) (b:=0) (ys:=[.i (nR f.cps nm f.cps.length),.i (nK f.cps nm f.cps.length)])
    (fun i hi=>by
     have e3:((i:Int)<(f.cps.length:Int)):=by omega
     simp only[apL,jC,jD,dh.d1,C.I_i,C.L_l,C.S_s,jW,jY,getD_map' Cp.e hi,e3,decide_true,jR,jX,w1 hi hl,nR,nK,List.getElem?_eq_getElem hi]
     simp only[Cp.e,jC,jD,C.S_s,C.I_i]
     show (bif sEq f.cps[i].at_ nm then _ else _)=_
     cases sEq f.cps[i].at_ nm<;>simp)
    (by simp[dh.d1]) f.cps.length 0 rfl
   simp only[Int.natCast_zero,nR,nK] at h
   rw[h]
   simp[dh.d2]
end Go.Ev
namespace Go.Ev
theorem nz {α:Type} (p:α→Bool):∀(l:List α) (n:Nat),decide (dI p l n<0)=!l.any p
 |[],n=>by simp[dI]
 |x::r,n=>by
  cases hx:p x with
  |true=>
   have:¬((n:Int)<0):=by omega
   simp[dI,hx,this]
  |false=>simp[dI,hx,nz p r (n+1)]
def eJ (l:List Cp) (nm:Str):Nat→Nat
 |0=>0
 |i+1=>match l[i]? with
  |some c=>bif sEq c.at_ nm then eJ l nm i+1 else eJ l nm i
  |none=>eJ l nm i
theorem sq (l:List Cp) (nm:Str):∀i,eJ l nm i≤i
 |0=>Nat.le_refl _
 |i+1=>by
  have:=sq l nm i
  simp only[eJ]
  split
  ·rename_i c _
   cases sEq c.at_ nm<;>simp<;>omega
  ·omega
theorem ya (f:Fl) (nm:Str) (hz:f.Sz 1048576):dY (f.e++[.s nm])=some [.i (eJ f.cps nm f.cps.length:Nat)]:=by
 have hl:f.cps.length<big:=by have:=hz.2.2.1;simp only[big];omega
 have h:=ep (body:=apn 7 dY.d1) (S:=fun i=>[.s nm,.i (eJ f.cps nm i:Nat),.i (i:Nat),.b f.pack,.l (f.bts.map Bt.e),.l (f.svs.map Sv.e),.l (f.cps.map Cp.e)]) (n:=f.cps.length) (b:=0) (ys:=[.i (eJ f.cps nm f.cps.length:Nat)])
  (fun i hi=>by
   have e3:((i:Int)<(f.cps.length:Int)):=by omega
   have hw:=zL (n:=eJ f.cps nm i) (by have:=sq f.cps nm i;omega)
   simp only[apL,jC,jD,dY.d1,C.I_i,C.L_l,C.S_s,jW,jY,getD_map' Cp.e hi,e3,decide_true,jR,jX,w1 hi hl,hw,eJ,List.getElem?_eq_getElem hi]
   simp only[Cp.e,jC,jD,C.S_s]
   show (bif sEq f.cps[i].at_ nm then _ else _)=_
   cases sEq f.cps[i].at_ nm<;>simp)
  (by simp[dY.d1]) f.cps.length 0 rfl
 simp only[Int.natCast_zero,eJ] at h
 simp only[dY,dY.d3,Fl.e,jA,jB,apL,jC,jD]
 rw[h]
 simp[dY.d2]
def svA (f:Fl) (i:Nat):Bool:=match f.svs[i]? with
 |some s=>aX s.name&&((i==0||match f.svs[i-1]? with|some q=>sLt q.name s.name|none=>true)&&within s.spare 0 60)
 |none=>true
def cpA (f:Fl) (i:Nat):Bool:=match f.cps[i]? with
 |some c=>ju c&&(f.svs.any (fun s=>sEq s.name c.svc)&&((i==0||match f.cps[i-1]? with|some q=>sLt q.name c.name|none=>true)&&(sEq c.at_ (mkS [])||f.bts.any (fun b=>sEq b.name c.at_))))
 |none=>true
def btA (f:Fl) (i:Nat):Bool:=match f.bts[i]? with
 |some b=>dV b&&(i==0||match f.bts[i-1]? with|some q=>sLt q.name b.name|none=>true)
 |none=>true
def sM (f:Fl) (i:Nat):Bool:=match f.bts[i]? with
 |some b=>decide ((used f b.name).1≤b.room)&&(decide ((used f b.name).2≤b.hold)&&decide (eJ f.cps b.name f.cps.length≤10))
 |none=>true
def bJ (f:Fl):Bool:=decide (f.bts.length≤12)&&(decide (f.svs.length≤30)&&(decide (f.cps.length≤60)&&(aN (svA f) 0 f.svs.length&&(aN (cpA f) 0 f.cps.length&&(aN (btA f) 0 f.bts.length&&aN (sM f) 0 f.bts.length)))))
section
variable {f:Fl} (hz:f.Sz 1048576)
include hz
theorem IQ (K:List C→R):ax 0 (lim (apn 5 aC.d1) ([.i 0]++f.e)) K=bif aN (svA f) 0 f.svs.length then K f.e else some (.ret [.b false]):=by
 have hl:f.svs.length<big:=by have:=hz.2.1.1;simp only[big];omega
 have h:=eH (body:=apn 5 aC.d1) (S:=fun i=>[.i (i:Nat)]++f.e) (p:=svA f) (n:=f.svs.length) (b:=0) (ys:=f.e) (r:=[.b false])
  (fun i hi=>by
   have hsz:=hz.2.1.2 _ (List.getElem_mem hi)
   have e3:((i:Int)<(f.svs.length:Int)):=by omega
   have hp:svA f i=(aX f.svs[i].name&&((i==0||match f.svs[i-1]? with|some q=>sLt q.name f.svs[i].name|none=>true)&&within f.svs[i].spare 0 60)):=by simp[svA,hi]
   simp only[Fl.e,jA,jB,apL,jC,jD,aC.d1,C.I_i,C.L_l,jW,jY,getD_map' Sv.e hi,w1 hi hl,e3,decide_true,jR,jX,hp]
   simp only[Sv.e,jC,jD,cx _ hsz,eT,ae,jI,C.B_b,C.S_s]
   cases hn:aX f.svs[i].name with
   |false=>simp
   |true=>
    rcases Nat.eq_zero_or_pos i with h0|h0
    ·subst h0
     cases within f.svs[0].spare 0 60<;>simp
    ·have hi1:i-1<f.svs.length:=by omega
     have hw:w64 ((i:Int)-1)=((i-1:Nat):Int):=by rw[aZ (by omega) (by simp only[big] at hl;omega)];omega
     have e1:((i:Int)>0):=by omega
     have e2:(((i-1:Nat):Int)<(f.svs.length:Int)):=by omega
     have e4:(i==0)=false:=by simp;omega
     simp only[hw,jY,getD_map' Sv.e hi1,e1,e2,e4,decide_true,jR,jX,List.getElem?_eq_getElem hi1,Bool.false_or,jZ,ja,Bool.true_and]
     simp only[Sv.e,jC,C.S_s]
     show (bif (!(!sLt f.svs[i-1].name f.svs[i].name)) then _ else _)=_
     cases sLt f.svs[i-1].name f.svs[i].name<;>cases within f.svs[i].spare 0 60<;>simp)
  (by simp[aC.d1,Fl.e]) f.svs.length 0 rfl
 simp only[Int.natCast_zero] at h
 rw[h]
 cases aN (svA f) 0 f.svs.length<;>simp
theorem Iz (hn:∀s,s∈f.svs→aX s.name=true) (K:List C→R):ax 2 (lim (apn 5 aC.d3) ([.i 0]++f.e)) K=bif aN (cpA f) 0 f.cps.length then K f.e else some (.ret [.b false]):=by
 have hl:f.cps.length<big:=by have:=hz.2.2.1;simp only[big];omega
 have h:=eH (body:=apn 5 aC.d3) (S:=fun i=>[.i (i:Nat)]++f.e) (p:=cpA f) (n:=f.cps.length) (b:=2) (ys:=f.e) (r:=[.b false])
  (fun i hi=>by
   have hsz:=hz.2.2.2 _ (List.getElem_mem hi)
   have e3:((i:Int)<(f.cps.length:Int)):=by omega
   have hp:cpA f i=(ju f.cps[i]&&(f.svs.any (fun s=>sEq s.name f.cps[i].svc)&&((i==0||match f.cps[i-1]? with|some q=>sLt q.name f.cps[i].name|none=>true)&&(sEq f.cps[i].at_ (mkS [])||f.bts.any (fun b=>sEq b.name f.cps[i].at_))))):=by simp[cpA,hi]
   have hsv:=vl f f.cps[i].svc hz.2.1.1
   have hbt:=gU f f.cps[i].at_ hz.1.1
   have hco:=wV f.cps[i] hsz
   have q1:(f.cps[i].at_.toList==(bs #[]).toList)=sEq f.cps[i].at_ (mkS []):=rfl
   have hs1:decide (sIx f f.cps[i].svc<0)=!f.svs.any (fun s=>sEq s.name f.cps[i].svc):=nz _ _ _
   have hb1:decide (bIx f f.cps[i].at_<0)=!f.bts.any (fun b=>sEq b.name f.cps[i].at_):=nz _ _ _
   have hany:f.svs.any (fun s=>sEq s.name f.cps[i].svc)=true→aX f.cps[i].svc=true:=fun h=>by
    obtain ⟨s,h1,h2⟩:=List.any_eq_true.1 h
    rw[←(fb _ _).1 h2];exact hn s h1
   simp only[Fl.e,jA,jB] at hsv hbt
   simp only[Cp.e] at hco
   simp only[Fl.e,jA,jB,apL,jC,jD,aC.d3,C.I_i,C.L_l,jW,jY,getD_map' Cp.e hi,e3,decide_true,jR,jX,hp]
   simp only[Cp.e,jC,jD,hco,hsv,hbt,ae,jI,C.B_b,C.S_s,C.I_i,q1,hs1,hb1]
   have hd2:∀b:Bool,aC.d2 (.i (i:Nat)) (.b b) (.b f.pack) (.l (f.bts.map Bt.e)) (.l (f.svs.map Sv.e)) (.l (f.cps.map Cp.e))=bif b then some (.ret [.b false]) else some (.again [.i (i+1:Nat),.b f.pack,.l (f.bts.map Bt.e),.l (f.svs.map Sv.e),.l (f.cps.map Cp.e)]):=fun b=>by
    simp only[aC.d2,C.B_b,C.I_i,w1 hi hl]
   cases hany2:f.svs.any (fun s=>sEq s.name f.cps[i].svc) with
   |false=>
    have:∀a b:Bool,(a&&(false&&b))=false:=by decide
    rw[this]
    cases aX f.cps[i].svc&&ju f.cps[i] with
    |false=>simp[hd2]
    |true=>
     rcases Nat.eq_zero_or_pos i with h0|h0
     ·subst h0
      simp only[Int.natCast_zero] at hd2
      simp[hd2]
     ·have hi1:i-1<f.cps.length:=by omega
      have hw:w64 ((i:Int)-1)=((i-1:Nat):Int):=by rw[aZ (by omega) (by simp only[big] at hl;omega)];omega
      have e1:((i:Int)>0):=by omega
      have e2:(((i-1:Nat):Int)<(f.cps.length:Int)):=by omega
      simp only[hw,jY,getD_map' Cp.e hi1,e1,e2,decide_true,jR,jX,jZ,ja,jS]
      cases (Op.bytesLess ((f.cps[i-1].e.getD 0 .nil).S).toList (f.cps[i].name).toList)<;>simp[hd2]
   |true=>
    rw[hany hany2,Bool.true_and,Bool.true_and]
    cases ju f.cps[i] with
    |false=>simp[hd2]
    |true=>
     rcases Nat.eq_zero_or_pos i with h0|h0
     ·subst h0
      simp only[Int.natCast_zero] at hd2
      cases sEq f.cps[0].at_ (mkS [])<;>cases f.bts.any (fun b=>sEq b.name f.cps[0].at_)<;>simp[hd2]
     ·have hi1:i-1<f.cps.length:=by omega
      have hw:w64 ((i:Int)-1)=((i-1:Nat):Int):=by rw[aZ (by omega) (by simp only[big] at hl;omega)];omega
      have e1:((i:Int)>0):=by omega
      have e2:(((i-1:Nat):Int)<(f.cps.length:Int)):=by omega
      have e4:(i==0)=false:=by simp;omega
      simp only[hw,jY,getD_map' Cp.e hi1,e1,e2,e4,decide_true,jR,jX,List.getElem?_eq_getElem hi1,Bool.false_or,jZ,ja,jS,Bool.true_and]
      have hn0:(f.cps[i-1].e.getD 0 .nil).S=f.cps[i-1].name:=rfl
      rw[hn0]
      show bR (bif (!(!sLt f.cps[i-1].name f.cps[i].name)) then _ else _) _=_
      cases sLt f.cps[i-1].name f.cps[i].name<;>cases sEq f.cps[i].at_ (mkS [])<;>cases f.bts.any (fun b=>sEq b.name f.cps[i].at_)<;>simp[hd2])
  (by simp[aC.d3,Fl.e]) f.cps.length 0 rfl
 simp only[Int.natCast_zero] at h
 rw[h]
 cases aN (cpA f) 0 f.cps.length<;>simp
theorem IW (K:List C→R):ax 4 (lim (apn 5 aC.d4) ([.i 0]++f.e)) K=bif aN (fun i=>btA f i&&sM f i) 0 f.bts.length then K [] else some (.ret [.b false]):=by
 have hl:f.bts.length<big:=by have:=hz.1.1;simp only[big];omega
 have h:=eH (body:=apn 5 aC.d4) (S:=fun i=>[.i (i:Nat)]++f.e) (p:=fun i=>btA f i&&sM f i) (n:=f.bts.length) (b:=4) (ys:=[]) (r:=[.b false])
  (fun i hi=>by
   have hsz:=hz.1.2 _ (List.getElem_mem hi)
   have e3:((i:Int)<(f.bts.length:Int)):=by omega
   have hp:btA f i=(dV f.bts[i]&&(i==0||match f.bts[i-1]? with|some q=>sLt q.name f.bts[i].name|none=>true)):=by simp[btA,hi]
   have hq:sM f i=(decide ((used f f.bts[i].name).1≤f.bts[i].room)&&(decide ((used f f.bts[i].name).2≤f.bts[i].hold)&&decide (eJ f.cps f.bts[i].name f.cps.length≤10))):=by simp[sM,hi]
   have hu:=vE f f.bts[i].name hz
   have hs:=ya f f.bts[i].name hz
   have hb:=vH f.bts[i] hsz
   have g1:decide ((used f f.bts[i].name).1>f.bts[i].room)=!decide ((used f f.bts[i].name).1≤f.bts[i].room):=by rw[←decide_not,decide_eq_decide];omega
   have g2:decide ((used f f.bts[i].name).2>f.bts[i].hold)=!decide ((used f f.bts[i].name).2≤f.bts[i].hold):=by rw[←decide_not,decide_eq_decide];omega
   have g3:decide ((eJ f.cps f.bts[i].name f.cps.length:Int)>10)=!decide (eJ f.cps f.bts[i].name f.cps.length≤10):=by rw[←decide_not,decide_eq_decide];omega
   simp only[Fl.e,jA,jB] at hu hs
   simp only[Bt.e] at hb
   simp only[Fl.e,jA,jB,apL,jC,jD,aC.d4,C.I_i,C.L_l,jW,jY,getD_map' Bt.e hi,e3,decide_true,jR,jX,w1 hi hl]
   simp only[Bt.e,jC,jD,hu,hs,hb,ae,call2,jI,C.B_b,C.S_s,C.I_i,g1,g2,g3,hp,hq,Bool.not_not]
   cases dV f.bts[i] with
   |false=>simp
   |true=>
    rcases Nat.eq_zero_or_pos i with h0|h0
    ·subst h0
     cases decide ((used f f.bts[0].name).1≤f.bts[0].room)<;>cases decide ((used f f.bts[0].name).2≤f.bts[0].hold)<;>cases decide (eJ f.cps f.bts[0].name f.cps.length≤10)<;>simp
    ·have hi1:i-1<f.bts.length:=by omega
     have hw:w64 ((i:Int)-1)=((i-1:Nat):Int):=by rw[aZ (by omega) (by simp only[big] at hl;omega)];omega
     have e1:((i:Int)>0):=by omega
     have e2:(((i-1:Nat):Int)<(f.bts.length:Int)):=by omega
     have e4:(i==0)=false:=by simp;omega
     simp only[hw,jY,getD_map' Bt.e hi1,e1,e2,e4,decide_true,jR,jX,List.getElem?_eq_getElem hi1,Bool.false_or,jZ,ja,jS,Bool.true_and]
     have hn0:(f.bts[i-1].e.getD 0 .nil).S=f.bts[i-1].name:=rfl
     rw[hn0]
     show (bif sLt f.bts[i-1].name f.bts[i].name then _ else _)=_
     cases sLt f.bts[i-1].name f.bts[i].name<;>cases decide ((used f f.bts[i].name).1≤f.bts[i].room)<;>cases decide ((used f f.bts[i].name).2≤f.bts[i].hold)<;>cases decide (eJ f.cps f.bts[i].name f.cps.length≤10)<;>simp)
  (by simp[aC.d4,Fl.e]) f.bts.length 0 rfl
 simp only[Int.natCast_zero] at h
 rw[h]
 cases aN (fun i=>btA f i&&sM f i) 0 f.bts.length<;>simp
omit hz in
theorem Cy (h:aN (svA f) 0 f.svs.length=true):∀s,s∈f.svs→aX s.name=true:=by
 intro s hs
 obtain ⟨i,hi,rfl⟩:=List.getElem_of_mem hs
 have:=(eS _ _ _).1 h i (Nat.zero_le _) (by omega)
 simp only[svA,List.getElem?_eq_getElem hi,Bool.and_eq_true] at this
 exact this.1
omit hz in
theorem sZ (p q:Nat→Bool):∀k i,aN (fun i=>p i&&q i) i k=(aN p i k&&aN q i k)
 |0,i=>rfl
 |k+1,i=>by
  simp only[aN,sZ p q k (i+1)]
  cases p i<;>cases q i<;>cases aN p (i+1) k<;>simp
theorem iA:aC f.e=some [.b (bJ f)]:=by
 have h1:=IQ hz (apn 4 aC.d7)
 have h3:=IW hz (fun xs=>aC.d5)
 simp only[Fl.e,jA,jB] at h1 h3
 have g1:decide ((f.bts.length:Int)>12)=!decide (f.bts.length≤12):=by rw[←decide_not,decide_eq_decide];omega
 have g2:decide ((f.svs.length:Int)>30)=!decide (f.svs.length≤30):=by rw[←decide_not,decide_eq_decide];omega
 have g3:decide ((f.cps.length:Int)>60)=!decide (f.cps.length≤60):=by rw[←decide_not,decide_eq_decide];omega
 simp only[aC,aC.d8,Fl.e,apL,jC,jD,C.L_l,jW,g1,g2,g3,Bool.not_not,h1,bJ]
 cases decide (f.bts.length≤12) with
 |false=>simp
 |true=>
 cases decide (f.svs.length≤30) with
 |false=>simp
 |true=>
 cases decide (f.cps.length≤60) with
 |false=>simp
 |true=>
 cases hs:aN (svA f) 0 f.svs.length with
 |false=>simp
 |true=>
  have h2:=Iz hz (Cy hs) (apn 4 aC.d6)
  simp only[Fl.e,jA,jB] at h2
  simp only[jR,jZ,jS,Bool.true_and,aC.d7,apL,jC,jD,h2]
  cases aN (cpA f) 0 f.cps.length with
  |false=>simp
  |true=>
   simp only[jR,Bool.true_and,aC.d6,apL,jC,jD,h3,sZ]
   cases aN (btA f) 0 f.bts.length<;>cases aN (sM f) 0 f.bts.length<;>simp[aC.d5]
end
end Go.Ev
namespace Go.Ev
def sF (l:List Sv):Nat→List (List C)
 |0=>[]
 |i+1=>match l[i]? with
  |some s=>lI s.name (.b true) (sF l i)
  |none=>sF l i
theorem Aj (l:List Sv) (nm:Str):∀i,i≤l.length→(kK (.b false) nm (sF l i)).B=(l.take i).any (fun s=>sEq s.name nm)
 |0,_=>rfl
 |i+1,h=>by
  have hi:i<l.length:=h
  rw[sF,List.getElem?_eq_getElem hi]
  simp only
  rw[pC,List.take_succ_eq_append_getElem hi,List.any_append,vS]
  have ih:=Aj l nm i (by omega)
  cases hq:sEq l[i].name nm with
  |true=>simp[hq]
  |false=>simp[hq,ih]
def rU (l:List Cp):Nat→List (List C)
 |0=>[]
 |i+1=>match l[i]? with
  |some c=>lI c.at_ (.i (w64 ((kK (.i 0) c.at_ (rU l i)).I+1))) (rU l i)
  |none=>rU l i
theorem wg (l:List Cp) (hl:l.length<big) (nm:Str):∀i,i≤l.length→kK (.i 0) nm (rU l i)=.i (eJ l nm i:Nat)
 |0,_=>rfl
 |i+1,h=>by
  have hi:i<l.length:=h
  have ih:=wg l hl nm i (by omega)
  have ih2:=wg l hl l[i].at_ i (by omega)
  rw[rU,eJ,List.getElem?_eq_getElem hi]
  simp only
  rw[pC,ih,ih2,vS]
  have hw:=zL (n:=eJ l l[i].at_ i) (by have:=sq l l[i].at_ i;omega)
  cases hq:sEq l[i].at_ nm with
  |true=>
   have:=(fb _ _).1 hq
   subst this
   simp only[jR,C.I_i,hw]
  |false=>rfl
section
variable {f:Fl} (hz:f.Sz 1048576)
include hz
theorem IL (K:List C→R):ax 0 (lim (apn 7 ai.d1) ([.l (f.bts.map Bt.e),.i (f.bts.length:Nat),.i 0]++f.e)) K=bif aN (btA f) 0 f.bts.length then K f.e else some (.ret [.b false]):=by
 have hl:f.bts.length<big:=by have:=hz.1.1;simp only[big];omega
 have h:=eH (body:=apn 7 ai.d1) (S:=fun i=>[.l (f.bts.map Bt.e),.i (f.bts.length:Nat),.i (i:Nat)]++f.e) (p:=btA f) (n:=f.bts.length) (b:=0) (ys:=f.e) (r:=[.b false])
  (fun i hi=>by
   have hsz:=hz.1.2 _ (List.getElem_mem hi)
   have e3:((i:Int)<(f.bts.length:Int)):=by omega
   have hp:btA f i=(dV f.bts[i]&&(i==0||match f.bts[i-1]? with|some q=>sLt q.name f.bts[i].name|none=>true)):=by simp only[btA,List.getElem?_eq_getElem hi]<;>rfl
   have hb:=wR f.bts[i] hsz
   simp only[Bt.e] at hb
   simp only[Fl.e,jA,jB,apL,jC,jD,ai.d1,C.I_i,C.L_l,jW,jY,getD_map' Bt.e hi,e3,decide_true,jR,jX,w1 hi hl]
   simp only[Bt.e,jC,jD,hb,ae,jI,C.B_b,C.S_s,hp]
   cases dV f.bts[i] with
   |false=>simp
   |true=>
    rcases Nat.eq_zero_or_pos i with h0|h0
    ·subst h0;simp
    ·have hi1:i-1<f.bts.length:=by omega
     have hw:w64 ((i:Int)-1)=((i-1:Nat):Int):=by rw[aZ (by omega) (by simp only[big] at hl;omega)];omega
     have e1:((i:Int)>0):=by omega
     have e2:(((i-1:Nat):Int)<(f.bts.length:Int)):=by omega
     have e4:(i==0)=false:=by simp;omega
     have hn0:(f.bts[i-1].e.getD 0 .nil).S=f.bts[i-1].name:=rfl
     simp only[hw,jY,getD_map' Bt.e hi1,e1,e2,e4,decide_true,jR,jX,List.getElem?_eq_getElem hi1,Bool.false_or,jZ,ja,jS,Bool.true_and,hn0,rR]
     cases sLt f.bts[i-1].name f.bts[i].name<;>simp)
  (by simp[ai.d1,Fl.e]) f.bts.length 0 rfl
 simp only[Int.natCast_zero] at h
 rw[h]
 cases aN (btA f) 0 f.bts.length<;>simp
theorem IS (K:List C→R):ax 2 (lim (apn 8 ai.d2) ([.l (f.svs.map Sv.e),.i (f.svs.length:Nat),.i 0]++f.e++[.l []])) K=bif aN (svA f) 0 f.svs.length then K (f.e++[.l (sF f.svs f.svs.length)]) else some (.ret [.b false]):=by
 have hl:f.svs.length<big:=by have:=hz.2.1.1;simp only[big];omega
 have h:=eH (body:=apn 8 ai.d2) (S:=fun i=>[.l (f.svs.map Sv.e),.i (f.svs.length:Nat),.i (i:Nat)]++f.e++[.l (sF f.svs i)]) (p:=svA f) (n:=f.svs.length) (b:=2) (ys:=f.e++[.l (sF f.svs f.svs.length)]) (r:=[.b false])
  (fun i hi=>by
   have hsz:=hz.2.1.2 _ (List.getElem_mem hi)
   have e3:((i:Int)<(f.svs.length:Int)):=by omega
   have hp:svA f i=(aX f.svs[i].name&&((i==0||match f.svs[i-1]? with|some q=>sLt q.name f.svs[i].name|none=>true)&&within f.svs[i].spare 0 60)):=by simp only[svA,List.getElem?_eq_getElem hi]<;>rfl
   simp only[Fl.e,jA,jB,apL,jC,jD,ai.d2,C.I_i,C.L_l,jW,jY,getD_map' Sv.e hi,w1 hi hl,e3,decide_true,jR,jX,hp,sF,List.getElem?_eq_getElem hi]
   simp only[Sv.e,jC,jD,fE _ hsz,l5,ae,jI,C.B_b,C.S_s]
   cases hn:aX f.svs[i].name with
   |false=>simp
   |true=>
    cases within f.svs[i].spare 0 60 with
    |false=>simp
    |true=>
     rcases Nat.eq_zero_or_pos i with h0|h0
     ·subst h0;simp
     ·have hi1:i-1<f.svs.length:=by omega
      have hw:w64 ((i:Int)-1)=((i-1:Nat):Int):=by rw[aZ (by omega) (by simp only[big] at hl;omega)];omega
      have e1:((i:Int)>0):=by omega
      have e2:(((i-1:Nat):Int)<(f.svs.length:Int)):=by omega
      have e4:(i==0)=false:=by simp;omega
      have hn0:(f.svs[i-1].e.getD 0 .nil).S=f.svs[i-1].name:=rfl
      simp only[hw,jY,getD_map' Sv.e hi1,e1,e2,e4,decide_true,jR,jX,List.getElem?_eq_getElem hi1,Bool.false_or,jZ,ja,jS,Bool.true_and,hn0,rR]
      cases sLt f.svs[i-1].name f.svs[i].name<;>simp)
  (by simp[ai.d2,Fl.e]) f.svs.length 0 rfl
 simp only[Int.natCast_zero,sF] at h
 rw[h]
 cases aN (svA f) 0 f.svs.length<;>simp
theorem IC (K:List C→R):ax 4 (lim (apn 9 ai.d4) ([.l (f.cps.map Cp.e),.i (f.cps.length:Nat),.i 0]++f.e++[.l (sF f.svs f.svs.length),.l []])) K=bif aN (cpA f) 0 f.cps.length then K (f.e++[.l (rU f.cps f.cps.length)]) else some (.ret [.b false]):=by
 have hl:f.cps.length<big:=by have:=hz.2.2.1;simp only[big];omega
 have h:=eH (body:=apn 9 ai.d4) (S:=fun i=>[.l (f.cps.map Cp.e),.i (f.cps.length:Nat),.i (i:Nat)]++f.e++[.l (sF f.svs f.svs.length),.l (rU f.cps i)]) (p:=cpA f) (n:=f.cps.length) (b:=4) (ys:=f.e++[.l (rU f.cps f.cps.length)]) (r:=[.b false])
  (fun i hi=>by
   have hsz:=hz.2.2.2 _ (List.getElem_mem hi)
   have e3:((i:Int)<(f.cps.length:Int)):=by omega
   have hp:cpA f i=(ju f.cps[i]&&(f.svs.any (fun s=>sEq s.name f.cps[i].svc)&&((i==0||match f.cps[i-1]? with|some q=>sLt q.name f.cps[i].name|none=>true)&&(sEq f.cps[i].at_ (mkS [])||f.bts.any (fun b=>sEq b.name f.cps[i].at_))))):=by simp only[cpA,List.getElem?_eq_getElem hi]<;>rfl
   have hbt:=h9 f f.cps[i].at_ hz.1.1
   have hco:=yB f.cps[i] hsz
   have q1:(f.cps[i].at_.toList==(bs #[]).toList)=sEq f.cps[i].at_ (mkS []):=rfl
   have hb1:decide (bIx f f.cps[i].at_<0)=!f.bts.any (fun b=>sEq b.name f.cps[i].at_):=nz _ _ _
   have hsm:=Aj f.svs f.cps[i].svc f.svs.length (Nat.le_refl _)
   rw[List.take_length] at hsm
   simp only[Fl.e,jA,jB] at hbt
   simp only[Cp.e] at hco
   simp only[Fl.e,jA,jB,apL,jC,jD,ai.d4,C.I_i,C.L_l,jW,jY,getD_map' Cp.e hi,e3,decide_true,jR,jX,hp]
   simp only[Cp.e,jC,jD,hco,hbt,ae,jI,C.B_b,C.S_s,C.I_i,q1,hb1,hsm]
   have hd3:∀(b:Bool),ai.d3 (.l (f.cps.map Cp.e)) (.i (f.cps.length:Nat)) (.i (i:Nat)) (.b b) (.b f.pack) (.l (f.bts.map Bt.e)) (.l (f.svs.map Sv.e)) (.l (f.cps.map Cp.e)) (.l (sF f.svs f.svs.length)) (.l (rU f.cps i)) (.s f.cps[i].name) (.s f.cps[i].svc) (.i f.cps[i].rank) (.i f.cps[i].born) (.i f.cps[i].room) (.i f.cps[i].hold) (.s f.cps[i].sel) (.l (f.cps[i].likes.map Lk.e)) (.i f.cps[i].apart) (.s f.cps[i].near) (.s f.cps[i].fixed) (.s f.cps[i].at_)=bif b then some (.ret [.b false]) else some (.again [.l (f.cps.map Cp.e),.i (f.cps.length:Nat),.i (i+1:Nat),.b f.pack,.l (f.bts.map Bt.e),.l (f.svs.map Sv.e),.l (f.cps.map Cp.e),.l (sF f.svs f.svs.length),.l (rU f.cps (i+1))]):=fun b=>by
    simp only[ai.d3,C.B_b,C.I_i,C.L_l,C.S_s,w1 hi hl,rU,List.getElem?_eq_getElem hi]
   cases ju f.cps[i] with
   |false=>simp[hd3]
   |true=>
    cases f.svs.any (fun s=>sEq s.name f.cps[i].svc) with
    |false=>simp[hd3]
    |true=>
     rcases Nat.eq_zero_or_pos i with h0|h0
     ·subst h0
      simp only[Int.natCast_zero] at hd3
      cases sEq f.cps[0].at_ (mkS [])<;>cases f.bts.any (fun b=>sEq b.name f.cps[0].at_)<;>simp[hd3]
     ·have hi1:i-1<f.cps.length:=by omega
      have hw:w64 ((i:Int)-1)=((i-1:Nat):Int):=by rw[aZ (by omega) (by simp only[big] at hl;omega)];omega
      have e1:((i:Int)>0):=by omega
      have e2:(((i-1:Nat):Int)<(f.cps.length:Int)):=by omega
      have e4:(i==0)=false:=by simp;omega
      have hn0:(f.cps[i-1].e.getD 0 .nil).S=f.cps[i-1].name:=rfl
      simp only[hw,jY,getD_map' Cp.e hi1,e1,e2,e4,decide_true,jR,jX,List.getElem?_eq_getElem hi1,Bool.false_or,jZ,ja,jS,Bool.true_and,hn0,rR]
      cases sLt f.cps[i-1].name f.cps[i].name<;>cases sEq f.cps[i].at_ (mkS [])<;>cases f.bts.any (fun b=>sEq b.name f.cps[i].at_)<;>simp[hd3])
  (by simp[ai.d4,Fl.e]) f.cps.length 0 rfl
 simp only[Int.natCast_zero,rU] at h
 rw[h]
 cases aN (cpA f) 0 f.cps.length<;>simp
theorem IY (K:List C→R):ax 6 (lim (apn 8 ai.d5) ([.l (f.bts.map Bt.e),.i (f.bts.length:Nat),.i 0]++f.e++[.l (rU f.cps f.cps.length)])) K=bif aN (sM f) 0 f.bts.length then K [] else some (.ret [.b false]):=by
 have hl:f.bts.length<big:=by have:=hz.1.1;simp only[big];omega
 have hlc:f.cps.length<big:=by have:=hz.2.2.1;simp only[big];omega
 have h:=eH (body:=apn 8 ai.d5) (S:=fun i=>[.l (f.bts.map Bt.e),.i (f.bts.length:Nat),.i (i:Nat)]++f.e++[.l (rU f.cps f.cps.length)]) (p:=sM f) (n:=f.bts.length) (b:=6) (ys:=[]) (r:=[.b false])
  (fun i hi=>by
   have e3:((i:Int)<(f.bts.length:Int)):=by omega
   have hq:sM f i=(decide ((used f f.bts[i].name).1≤f.bts[i].room)&&(decide ((used f f.bts[i].name).2≤f.bts[i].hold)&&decide (eJ f.cps f.bts[i].name f.cps.length≤10))):=by simp[sM,hi]
   have hu:=vC f f.bts[i].name hz
   have hmc:=wg f.cps hlc f.bts[i].name f.cps.length (Nat.le_refl _)
   have g1:decide ((used f f.bts[i].name).1>f.bts[i].room)=!decide ((used f f.bts[i].name).1≤f.bts[i].room):=by rw[←decide_not,decide_eq_decide];omega
   have g2:decide ((used f f.bts[i].name).2>f.bts[i].hold)=!decide ((used f f.bts[i].name).2≤f.bts[i].hold):=by rw[←decide_not,decide_eq_decide];omega
   have g3:decide ((eJ f.cps f.bts[i].name f.cps.length:Int)>10)=!decide (eJ f.cps f.bts[i].name f.cps.length≤10):=by rw[←decide_not,decide_eq_decide];omega
   simp only[Fl.e,jA,jB] at hu
   simp only[Fl.e,jA,jB,apL,jC,jD,ai.d5,C.I_i,C.L_l,jW,jY,getD_map' Bt.e hi,e3,decide_true,jR,jX,w1 hi hl]
   simp only[Bt.e,jC,jD,hu,call2,jI,C.S_s,C.I_i,hmc,g1,g2,g3,hq,Bool.not_not]
   cases decide ((used f f.bts[i].name).1≤f.bts[i].room)<;>cases decide ((used f f.bts[i].name).2≤f.bts[i].hold)<;>cases decide (eJ f.cps f.bts[i].name f.cps.length≤10)<;>simp)
  (by simp[ai.d5,Fl.e]) f.bts.length 0 rfl
 simp only[Int.natCast_zero] at h
 rw[h]
 cases aN (sM f) 0 f.bts.length<;>simp
theorem cq:ai f.e=some [.b (bJ f)]:=by
 have h1:=IL hz (apn 4 ai.d9)
 have h2:=IS hz (apn 5 ai.d8)
 have h3:=IC hz (apn 5 ai.d7)
 have h4:=IY hz (fun xs=>ai.d6)
 simp only[Fl.e,jA,jB] at h1 h2 h3 h4
 have g1:decide ((f.bts.length:Int)>12)=!decide (f.bts.length≤12):=by rw[←decide_not,decide_eq_decide];omega
 have g2:decide ((f.svs.length:Int)>30)=!decide (f.svs.length≤30):=by rw[←decide_not,decide_eq_decide];omega
 have g3:decide ((f.cps.length:Int)>60)=!decide (f.cps.length≤60):=by rw[←decide_not,decide_eq_decide];omega
 simp only[ai,ai.d10,Fl.e,apL,jC,jD,C.L_l,jW,g1,g2,g3,Bool.not_not,h1,bJ]
 cases decide (f.bts.length≤12) with
 |false=>simp
 |true=>
 cases decide (f.svs.length≤30) with
 |false=>simp
 |true=>
 cases decide (f.cps.length≤60) with
 |false=>simp
 |true=>
 cases hb:aN (btA f) 0 f.bts.length with
 |false=>simp
 |true=>
 simp only[jR,jZ,jS,Bool.true_and,ai.d9,apL,jC,jD,C.L_l,jW,ah,h2]
 cases hs:aN (svA f) 0 f.svs.length with
 |false=>simp
 |true=>
 simp only[jR,Bool.true_and,ai.d8,apL,jC,jD,C.L_l,jW,ah,h3]
 cases hc:aN (cpA f) 0 f.cps.length with
 |false=>simp
 |true=>
 simp only[jR,Bool.true_and,ai.d7,apL,jC,jD,C.L_l,jW,h4]
 cases aN (sM f) 0 f.bts.length<;>simp[ai.d6]
end
end Go.Ev
namespace Go.Ev
theorem pB {α:Type} (p:α→Bool):∀(l:List α) (n:Nat),dI p l n<0∨∃i,∃h:i<l.length,dI p l n=((n+i:Nat):Int)∧p l[i]=true
 |[],n=>.inl (by simp[dI])
 |x::r,n=>by
  cases hx:p x with
  |true=>exact .inr ⟨0,by simp,by simp[dI,hx],by simpa using hx⟩
  |false=>
   rcases pB p r (n+1) with h|⟨i,h,h1,h2⟩
   ·exact .inl (by simpa [dI,hx] using h)
   ·exact .inr ⟨i+1,by simpa using h,by simp[dI,hx,h1];omega,by simpa using h2⟩
def Is (f:Fl) (g:List Str) (i:Nat):Bool:=match f.cps[(cIx f (sAt g i)).toNat]? with
 |some c=>decide (0≤cIx f (sAt g i))&&(!sEq c.at_ (mkS [])&&(i==0||sLt (sAt g (i-1)) (sAt g i)))
 |none=>false
def HC (f:Fl) (g:List Str) (i:Nat):Str:=match f.cps[(cIx f (sAt g i)).toNat]? with
 |some c=>c.svc
 |none=>mkS []
def FM (f:Fl) (g:List Str) (nm:Str):Nat→Nat
 |0=>0
 |i+1=>bif sEq (HC f g i) nm then FM f g nm i+1 else FM f g nm i
def Gc (l:List Cp) (nm:Str):Nat→Nat
 |0=>0
 |i+1=>match l[i]? with
  |some c=>bif sEq c.svc nm&&sEq c.at_ (mkS []) then Gc l nm i+1 else Gc l nm i
  |none=>Gc l nm i
def IV (f:Fl) (g:List Str) (i:Nat):Bool:=match f.svs[i]? with
 |some s=>FM f g s.name g.length==0||decide ((FM f g s.name g.length:Int)≤s.spare-Gc f.cps s.name f.cps.length)
 |none=>true
def Ip (f:Fl) (g:List Str):Bool:=aN (Is f g) 0 g.length&&aN (IV f g) 0 f.svs.length
section
variable {f:Fl} {g:List Str} (hz:f.Sz 1048576) (hg:zJ 1048576 g)
include hz hg
omit hz in
end
end Go.Ev
namespace Go.Ev
def vN (k:Nat) (n v:Tok) (m:Str):Bool:=qG m&&(sEq (fP m) (mkS n)&&(k==1||sEq (iU m) (mkS v)))
def Tr.meets (ms:List Str):Tr→Bool
 |.lf k n v=>k==0||ms.any (vN k n v)
 |.un t=>!t.meets ms
 |.bn k a b=>bif k==4 then a.meets ms&&b.meets ms else a.meets ms||b.meets ms
def Tr.Ok (t:Tr):Prop:=t.Wf∨t=.lf 0 [] []
theorem zd (q:Nat→Bool):∀(k i:Nat),(!aN (fun j=>!q j) i k)=true↔∃j,i≤j∧j<i+k∧q j=true:=by
 intro k i
 rw[Bool.not_eq_true',←Bool.not_eq_true,eS]
 constructor
 ·intro h
  apply Classical.byContradiction
  intro hn
  exact h fun j h1 h2=>by
   cases hq:q j with
   |false=>rfl
   |true=>exact absurd ⟨j,h1,h2,hq⟩ hn
 ·rintro ⟨j,h1,h2,h3⟩ h
  have:=h j h1 h2
  rw[h3] at this;simp at this
theorem Ek (p:Str→Bool) (ms:List Str):aN (fun j=>!p (sAt ms j)) 0 ms.length=!ms.any p:=by
 rw[←Bool.not_not (b:=aN _ _ _)]
 congr 1
 rw[Bool.eq_iff_iff,zd,List.any_eq_true]
 constructor
 ·rintro ⟨j,_,h1,h2⟩
  have hj:j<ms.length:=by omega
  rw[hP hj] at h2
  exact ⟨_,List.getElem_mem hj,h2⟩
 ·rintro ⟨x,hx,h⟩
  obtain ⟨j,hj,rfl⟩:=List.getElem_of_mem hx
  exact ⟨j,Nat.zero_le _,by omega,by rw[hP hj];exact h⟩
section
variable {ms:List Str} (hz:zJ 1048576 ms)
include hz
theorem Ha (G:List C→Option (List C)) (k:Nat) (n v:Tok) (c:C) (K:List C→R):ax 1 (lim (apn 6 (ba.d2 G)) [.l (ms.map sE),.i 0,.i (k:Nat),.s (mkS n),.s (mkS v),c]) K=bif ms.any (vN k n v) then some (.ret [.b true]) else K []:=by
 have hl:ms.length<big:=by have:=hz.1;simp only[big];omega
 have h:=eH (body:=apn 6 (ba.d2 G)) (S:=fun i=>[.l (ms.map sE),.i (i:Nat),.i (k:Nat),.s (mkS n),.s (mkS v),c]) (p:=fun j=>!vN k n v (sAt ms j)) (n:=ms.length) (b:=1) (ys:=[]) (r:=[.b true])
  (fun i hi=>by
   have hsz:(sAt ms i).size≤1048576:=by rw[hP hi];exact hz.2 _ (List.getElem_mem hi)
   have e3:((i:Int)<(ms.length:Int)):=by omega
   have q1:((fP (sAt ms i)).toList==(mkS n).toList)=sEq (fP (sAt ms i)) (mkS n):=rfl
   have q2:((iU (sAt ms i)).toList==(mkS v).toList)=sEq (iU (sAt ms i)) (mkS v):=rfl
   have q3:(((k:Nat):Int)==1)=(k==1):=by rw[Bool.eq_iff_iff,beq_iff_eq,beq_iff_eq];omega
   simp only[apL,jC,jD,ba.d2,ba.d1,C.I_i,C.L_l,jW,jY,getD_map' sE hi,←hP hi,w1 hi hl,e3,decide_true,jR,jX]
   simp only[sE,jC,o7 _ hsz,call3,jI,C.S_s,jD,C.B_b,q1,q2,q3,vN]
   cases qG (sAt ms i)<;>cases sEq (fP (sAt ms i)) (mkS n)<;>cases k==1<;>cases sEq (iU (sAt ms i)) (mkS v)<;>simp[ba.d1,w1 hi hl])
  (by simp[ba.d2]) ms.length 0 rfl
 simp only[Int.natCast_zero,Ek] at h
 rw[h]
 cases ms.any (vN k n v)<;>simp
theorem uw {N K:List (List C)} (hN:N.length≤1048576) (hK:K.length≤1048576):∀(k:Nat) (t:Tr) (o:Nat) (r r':List (List C)),t.depth<k→t.Ok→N.drop o=t.flat++r→K.drop o=t.kids o++r'→
  ba.g k 0 [.l N,.l K,.i (o+t.sz-1:Nat),.l (ms.map sE)]=some [.b (t.meets ms)]
 |0,t,o,r,r',h,_,_,_=>by omega
 |k+1,t,o,r,r',h,hok,hd,hd'=>by
  have hs:∀x,ba.g (k+1) 0 x=ba.step (ba.g k 0) x:=fun _=>rfl
  rw[hs]
  simp only[ba.step,ba.d4,apL,jC,jD,C.I_i,C.L_l,jY]
  cases t with
  |lf kd n v=>
   obtain ⟨h1,h2,_⟩:=drop_cons (show N.drop o=node kd n v 0::r from hd)
   have hlf:=Ha hz (ba.g k 0) kd n v (.i ((0:Nat):Int)) (fun xs=>ba.d3 (ba.g k 0))
   have e:o+(Tr.lf kd n v).sz-1=o:=by simp[Tr.sz]
   have hg:N.getD o []=node kd n v 0:=by rw[List.getD_eq_getElem?_getD,List.getElem?_eq_getElem h1,h2];rfl
   have e1:((o:Int)<(N.length:Int)):=by omega
   have hk:kd=0∨kd=1∨kd=2:=by
    rcases hok with h|h
    ·rcases h.2 with ⟨h,_⟩|⟨h,_⟩
     ·exact .inr (.inl h)
     ·exact .inr (.inr h)
    ·simp only[Tr.lf.injEq] at h;exact .inl h.1
   simp only[e,hg,node,jC,jD,C.I_i,e1,decide_true,jR,jX,Tr.meets]
   rcases hk with rfl|rfl|rfl
   ·simp
   ·simp only[show (((1:Nat):Int)==0)=false from rfl,show (((1:Nat):Int)==3)=false from rfl,show (((1:Nat):Int)==4)=false from rfl,show (((1:Nat):Int)==5)=false from rfl,jS,hlf]
    cases ms.any (vN 1 n v)<;>simp[ba.d3]
   ·simp only[show (((2:Nat):Int)==0)=false from rfl,show (((2:Nat):Int)==3)=false from rfl,show (((2:Nat):Int)==4)=false from rfl,show (((2:Nat):Int)==5)=false from rfl,jS,hlf]
    cases ms.any (vN 2 n v)<;>simp[ba.d3]
  |un t=>
   simp only[Tr.depth] at h
   have hw:t.Ok:=by
    rcases hok with h|h
    ·exact .inl h
    ·simp at h
   have hn:N.drop o=t.flat++(node 3 [] [] 1::r):=by rw[hd];simp[Tr.flat]
   have hk:K.drop o=t.kids o++([.l [[.i (o+t.sz-1:Nat)]]]::r'):=by rw[hd'];simp[Tr.kids]
   have ih:=uw hN hK k t o _ _ (by omega) hw hn hk
   obtain ⟨h1,h2⟩:=iz hn
   obtain ⟨h3,h4⟩:=iz hk
   rw[t.bZ] at h1
   rw[t.cB] at h3
   have h2:N[o+t.sz]=node 3 [] [] 1:=by simp only[t.bZ] at h2;exact h2
   have h4:K[o+t.sz]=[.l [[.i (o+t.sz-1:Nat)]]]:=by simp only[t.cB] at h4;exact h4
   have e:o+(Tr.un t).sz-1=o+t.sz:=by simp[Tr.sz]
   have hg:N.getD (o+t.sz) []=node 3 [] [] 1:=by rw[List.getD_eq_getElem?_getD,List.getElem?_eq_getElem h1,h2];rfl
   have hg':K.getD (o+t.sz) []=[.l [[.i (o+t.sz-1:Nat)]]]:=by rw[List.getD_eq_getElem?_getD,List.getElem?_eq_getElem h3,h4];rfl
   have e1:(((o+t.sz:Nat):Int)<(N.length:Int)):=by omega
   have e2:(((o+t.sz:Nat):Int)<(K.length:Int)):=by omega
   simp only[e,hg,hg',node,jC,jD,C.I_i,C.L_l,e1,e2,decide_true,jR,jX,ih,ae,jI,C.B_b,Tr.meets]
   simp
  |bn kd a b=>
   simp only[Tr.depth] at h
   have hw:(kd=4∨kd=5)∧a.Ok∧b.Ok:=by
    rcases hok with h|h
    ·exact ⟨h.1,.inl h.2.1,.inl h.2.2⟩
    ·simp at h
   have hn:N.drop o=a.flat++(b.flat++(node kd [] [] 2::r)):=by rw[hd];simp[Tr.flat]
   have hn2:N.drop (o+a.sz)=b.flat++(node kd [] [] 2::r):=by rw[←List.drop_drop,hn,←a.bZ];simp
   have hk:K.drop o=a.kids o++(b.kids (o+a.sz)++([.l [[.i (o+a.sz-1:Nat)],[.i (o+a.sz+b.sz-1:Nat)]]]::r')):=by rw[hd'];simp[Tr.kids]
   have hk2:K.drop (o+a.sz)=b.kids (o+a.sz)++([.l [[.i (o+a.sz-1:Nat)],[.i (o+a.sz+b.sz-1:Nat)]]]::r'):=by
    rw[←List.drop_drop,hk,←a.cB o];simp
   have iha:=uw hN hK k a o _ _ (by omega) hw.2.1 hn hk
   have ihb:=uw hN hK k b (o+a.sz) _ _ (by omega) hw.2.2 hn2 hk2
   obtain ⟨h1,h2⟩:=iz hn2
   obtain ⟨h3,h4⟩:=iz hk2
   rw[b.bZ] at h1
   rw[b.cB] at h3
   have h2:N[o+a.sz+b.sz]=node kd [] [] 2:=by simp only[b.bZ] at h2;exact h2
   have h4:K[o+a.sz+b.sz]=[.l [[.i (o+a.sz-1:Nat)],[.i (o+a.sz+b.sz-1:Nat)]]]:=by simp only[b.cB] at h4;exact h4
   have e:o+(Tr.bn kd a b).sz-1=o+a.sz+b.sz:=by simp only[Tr.sz];omega
   have hg:N.getD (o+a.sz+b.sz) []=node kd [] [] 2:=by rw[List.getD_eq_getElem?_getD,List.getElem?_eq_getElem h1,h2];rfl
   have hg':K.getD (o+a.sz+b.sz) []=[.l [[.i (o+a.sz-1:Nat)],[.i (o+a.sz+b.sz-1:Nat)]]]:=by rw[List.getD_eq_getElem?_getD,List.getElem?_eq_getElem h3,h4];rfl
   have e1:(((o+a.sz+b.sz:Nat):Int)<(N.length:Int)):=by omega
   have e2:(((o+a.sz+b.sz:Nat):Int)<(K.length:Int)):=by omega
   simp only[e,hg,hg',node,jC,jD,C.I_i,C.L_l,e1,e2,decide_true,jR,jX,iha,ihb,ae,jI,C.B_b,Tr.meets]
   rcases hw.1 with rfl|rfl
   ·cases a.meets ms<;>simp
   ·cases a.meets ms<;>simp
end
end Go.Ev
namespace Go.Ev
def PR.tr:PR→Option Tr
 |.err _=>none
 |.all=>some (.lf 0 [] [])
 |.tree t=>some t
theorem PR.EX {p:PR} {t:Tr} (h:p.tr=some t):p.nodes=t.flat∧p.ptr=t.enc∧p.code=0:=by
 cases p with
 |err n=>simp[PR.tr] at h
 |all=>simp only[PR.tr,Option.some.injEq] at h;subst h;exact ⟨rfl,rfl,rfl⟩
 |tree u=>simp only[PR.tr,Option.some.injEq] at h;subst h;exact ⟨rfl,rfl,rfl⟩
theorem PR.FG {p:PR} (h:p.tr=none):∃n,p=.err n:=by
 cases p with
 |err n=>exact ⟨n,rfl⟩
 |all=>simp[PR.tr] at h
 |tree u=>simp[PR.tr] at h
theorem Fc (s:Str) {n:Nat} (h:pp s=.err n):n≠0:=by
 unfold pp at h
 split at h
 ·simp at h;omega
 ·split at h
  ·simp at h
  ·split at h
   ·split at h
    ·simp at h
    ·simp at h;omega
   ·simp at h;omega
theorem Ig {s:Str} {t:Tr} (h:(pp s).tr=some t):t.Ok∧t.sz≤200∧t.depth≤20:=by
 cases hp:pp s with
 |err n=>rw[hp] at h;simp[PR.tr] at h
 |all=>
  rw[hp] at h
  simp only[PR.tr,Option.some.injEq] at h
  subst h
  exact ⟨.inr rfl,by simp[Tr.sz],by simp[Tr.depth]⟩
 |tree u=>
  rw[hp] at h
  simp only[PR.tr,Option.some.injEq] at h
  subst h
  obtain ⟨h1,h2,h3⟩:=FH hp
  exact ⟨.inl h1,h2,h3⟩
theorem CQ:aL [.l (Tr.lf 0 [] []).flat]=some [.b true]:=by
 have w0:w64 1=1:=aZ (by omega) (by omega)
 have z0:within 0 0 5=true:=rfl
 have h0:apn 2 aL.d4 [.i 0,.l (Tr.lf 0 [] []).flat]=some (.again [.i 1,.l (Tr.lf 0 [] []).flat]):=by
  simp[aL.d4,aL.d3,aL.d2,aL.d1,Tr.flat,node,eT,z0,ae,emp,eu,w0]
 have h1:apn 2 aL.d4 [.i 1,.l (Tr.lf 0 [] []).flat]=some (.brk 0 []):=by
  simp[aL.d4,Tr.flat]
 have hk:=iO (.lf 0 [] []) (by simp[Tr.sz])
 have e:¬(((Tr.lf 0 [] []).flat.length:Int)>400):=by simp[Tr.flat]
 simp only[aL,aL.d6,apL,jC,C.L_l,e,decide_false,jS,hk,call2,jI,C.B_b,jZ]
 rw[aO h0,aY h1]
 simp[aL.d5]
theorem zK (t:Tr) (ht:t.sz≤400) (ho:t.Ok):aL [.l t.flat]=some [.b true]:=by
 rcases ho with h|rfl
 ·exact tv t ht h
 ·exact CQ
theorem rV (t:Tr) (ht:t.sz≤400) (ho:t.Ok):fi [.l t.flat]=some [.b (decide (t.depth≤20))]:=by
 have hd:=t.lH
 have hp:=t.qB
 have hF:=lQ
 have hw1:w64 ((t.flat.length:Int)-1)=((0+t.sz-1:Nat):Int):=by rw[t.bZ,aZ (by omega) (by omega)];omega
 have hn:bw [.l (t.kids 0),.i (0+t.sz-1:Nat)]=some [.i (t.depth:Nat)]:=
  ve (K:=t.kids 0) (by rw[t.cB];omega) iW t 0 [] (by omega) (by simp only[big];omega) (by simp)
 simp only[fi,fi.d1,apL,jC,jD,zK t ht ho,ae,call2,jI,C.B_b,jZ,jS,iO t (by omega),C.L_l,hw1,hn,C.I_i,jV]
 have:decide ((t.depth:Int)≤20)=decide (t.depth≤20):=by
  rw[decide_eq_decide];omega
 rw[this]
def Cc (z:Str):Str:=bs #[122,111,110,101,61]++z
def uy (b:Bt):List Str:=b.marks++[Cc b.zone]
def AO (s:Str) (b:Bt):Bool:=match (pp s).tr with
 |some t=>t.meets (uy b)
 |none=>false
theorem C1 (z:Str):(Cc z).size=5+z.size:=by
 unfold Cc
 rw[ByteArray.size_append];rfl
theorem vT {b:Bt} (hb:dV b=true):b.marks.length≤10∧b.zone.size≤20:=by
 simp only[dV,pK,aX,within,Bool.and_eq_true,decide_eq_true_eq] at hb
 omega
theorem Dg {b:Bt} (hz:b.Sz 1048576) (hb:dV b=true):zJ 1048576 (uy b):=by
 obtain ⟨h1,h2⟩:=vT hb
 refine ⟨by simp[uy];omega,fun s hs=>?_⟩
 rcases List.mem_append.1 hs with hs|hs
 ·exact hz.2.2.2 s hs
 ·simp at hs;subst hs;rw[C1];omega
theorem tT (t:Tr) (ht:t.sz≤400) (ho:t.Ok) (hd:t.depth≤20) {ms:List Str} (hz:zJ 1048576 ms):fV [.l t.flat,.l (ms.map sE)]=some [.b (t.meets ms)]:=by
 have hF:=lQ
 have hp:=t.qB
 have hw1:w64 ((t.flat.length:Int)-1)=((0+t.sz-1:Nat):Int):=by rw[t.bZ,aZ (by omega) (by omega)];omega
 have hm:ba [.l t.flat,.l (t.kids 0),.i (0+t.sz-1:Nat),.l (ms.map sE)]=some [.b (t.meets ms)]:=
  uw hz (by rw[t.bZ];omega) (by rw[t.cB];omega) iW t 0 [] [] (by omega) ho (by simp) (by simp)
 simp only[fV,fV.d1,apL,jC,jD,rV t ht ho,hd,decide_true,ae,call2,jI,C.B_b,jZ,jS,iO t (by omega),C.L_l,hw1,hm,jV]
theorem w7 (s:Str) (b:Bt) (hs:s.size≤1048576) (hz:b.Sz 1048576) (hb:dV b=true):iH (.s s::b.e)=some [.b (AO s b)]:=by
 obtain ⟨z1,z2⟩:=vT hb
 have hm:js b.e=some [.l ((uy b).map sE)]:=by
  have e1:b.marks.length≤4294967296:=by omega
  have e2:(bs #[122,111,110,101,61]).size+b.zone.size≤4294967296:=by
   have:(bs #[122,111,110,101,61]).size=5:=rfl
   omega
  have e3:b.marks.length+1≤4294967296:=by omega
  simp[js,js.d1,Bt.e,e1,e2,e3,uy,Cc,sE]
 simp only[Bt.e] at hm
 simp only[iH,iH.d1,Bt.e,apL,jC,jD,nO s hs,call2,jI,C.I_i,AO]
 cases ht:(pp s).tr with
 |none=>
  obtain ⟨n,hn⟩:=PR.FG ht
  have hne:=Fc s hn
  have e:((((PR.err n).code:Nat):Int)==0)=false:=by rw[beq_eq_false_iff_ne];simp only[PR.code];omega
  rw[hn]
  simp only[e,jS,jV]
 |some t=>
  obtain ⟨h1,h2,h3⟩:=PR.EX ht
  obtain ⟨o1,o2,o3⟩:=Ig ht
  have hp:=tT t (by omega) o1 o3 (Dg hz hb)
  rw[h1,h3]
  simp[hm,ae,hp]
end Go.Ev
namespace Go.Ev
def lp (f:Fl) (nm:Str):Str:=if bIx f nm<0 then mkS [] else match f.bts[(bIx f nm).toNat]? with
 |some b=>b.zone
 |none=>mkS []
theorem yS (f:Fl) (nm:Str):bIx f nm<0∨∃k,∃h:k<f.bts.length,bIx f nm=(k:Nat)∧sEq f.bts[k].name nm=true:=by
 rcases pB (fun x:Bt=>sEq x.name nm) f.bts 0 with h|⟨k,hk,h1,h2⟩
 ·exact .inl h
 ·exact .inr ⟨k,hk,by rw[←Nat.zero_add k];exact h1,h2⟩
theorem qm (f:Fl) (nm:Str):cIx f nm<0∨∃k,∃h:k<f.cps.length,cIx f nm=(k:Nat)∧sEq f.cps[k].name nm=true:=by
 rcases pB (fun x:Cp=>sEq x.name nm) f.cps 0 with h|⟨k,hk,h1,h2⟩
 ·exact .inl h
 ·exact .inr ⟨k,hk,by rw[←Nat.zero_add k];exact h1,h2⟩
theorem p8 (f:Fl) (nm:Str) (hz:f.Sz 1048576):gM (f.e++[.s nm])=some [.s (lp f nm)]:=by
 have hb:=gU f nm hz.1.1
 simp only[Fl.e,jA,jB] at hb
 simp only[gM,gM.d1,Fl.e,jA,jB,apL,jC,jD,hb,ae,jI,C.I_i,C.L_l,jW,lp]
 rcases yS f nm with h|⟨k,hk,h1,_⟩
 ·simp[h,eu]
 ·have e5:¬((k:Int)<0):=by omega
  have e6:((k:Int)<(f.bts.length:Int)):=by omega
  have hg:f.bts[k].e.getD 1 .nil=.s f.bts[k].zone:=rfl
  simp only[h1,e5,e6,decide_true,decide_false,jR,jS,jX,jY,getD_map' Bt.e hk,hg,if_false,List.getElem?_eq_getElem hk,jV]
def oth (c x:Cp):Bool:=!sEq x.name c.name&&!sEq x.at_ (mkS [])
def B0 (l:List Lk) (b:Bt):Nat→Int
 |0=>0
 |i+1=>match l[i]? with
  |some x=>bif AO x.sel b then w64 (B0 l b i+x.w) else B0 l b i
  |none=>B0 l b i
def BJ (f:Fl) (c:Cp) (b:Bt):Nat→Nat
 |0=>0
 |i+1=>match f.cps[i]? with
  |some x=>bif oth c x&&(sEq x.svc c.svc&&sEq (lp f x.at_) b.zone) then BJ f c b i+1 else BJ f c b i
  |none=>BJ f c b i
def yh (f:Fl) (c:Cp) (b:Bt):Nat→Nat
 |0=>0
 |i+1=>match f.cps[i]? with
  |some x=>bif oth c x&&(sEq x.svc c.svc&&sEq x.at_ b.name) then yh f c b i+1 else yh f c b i
  |none=>yh f c b i
def BG (f:Fl) (c:Cp) (b:Bt):Nat→Int
 |0=>w64 (b.room-c.room)
 |i+1=>match f.cps[i]? with
  |some x=>bif oth c x&&sEq x.at_ b.name then w64 (BG f c b i-x.room) else BG f c b i
  |none=>BG f c b i
section
variable {f:Fl} (hz:f.Sz 1048576) {c:Cp} (hc:c.Sz 1048576) {b:Bt} (hb:b.Sz 1048576) (hbo:dV b=true)
include hz hc hb hbo
end
end Go.Ev
namespace Go.Ev
theorem A7 {f:Fl} (h:bJ f=true):∀b,b∈f.bts→dV b=true:=by
 intro b hb
 obtain ⟨i,hi,rfl⟩:=List.getElem_of_mem hb
 simp only[bJ,Bool.and_eq_true] at h
 have:=(eS _ _ _).1 h.2.2.2.2.2.1 i (Nat.zero_le _) (by omega)
 simp only[btA,List.getElem?_eq_getElem hi,Bool.and_eq_true] at this
 exact this.1
theorem CY {f:Fl} (h:bJ f=true):∀c,c∈f.cps→ju c=true:=by
 intro b hb
 obtain ⟨i,hi,rfl⟩:=List.getElem_of_mem hb
 simp only[bJ,Bool.and_eq_true] at h
 have:=(eS _ _ _).1 h.2.2.2.2.1 i (Nat.zero_le _) (by omega)
 simp only[cpA,List.getElem?_eq_getElem hi,Bool.and_eq_true] at this
 exact this.1
structure VB (f:Fl):Prop where
 n60:f.cps.length≤60
 cb:∀x,x∈f.cps→(0≤x.room∧x.room≤1000)∧(0≤x.hold∧x.hold≤1000)∧(0≤x.apart∧x.apart≤2)∧(0≤x.rank∧x.rank≤100)∧(0≤x.born∧x.born≤1000000)
 bb:∀b,b∈f.bts→dV b=true
theorem DC {f:Fl} (h:bJ f=true):VB f:=by
 refine ⟨?_,fun x hx=>?_,A7 h⟩
 ·simp only[bJ,Bool.and_eq_true,decide_eq_true_eq] at h
  exact h.2.2.1
 ·have:=CY h x hx
  simp only[ju,within,Bool.and_eq_true,decide_eq_true_eq] at this
  exact ⟨this.2.2.2.1,this.2.2.2.2.1,this.2.2.2.2.2.2.1,this.2.1,this.2.2.1⟩
section
variable {f:Fl} (hz:f.Sz 1048576) {c:Cp} (hc:c.Sz 1048576) {b:Bt} (hb:b.Sz 1048576) (hbo:dV b=true)
include hz hc hb hbo
end
section
variable {f:Fl} (hz:f.Sz 1048576) (cn bn_:Str)
include hz
end
end Go.Ev
namespace Go.Ev
def DA {α:Type} (p:α→Bool) (l:List α) (j:Nat):Bool:=match l[j]? with|some x=>p x|none=>false
theorem ub {α:Type} (p:α→Bool) {l:List α} {j:Nat} (h:j<l.length):DA p l j=p l[j]:=by simp[DA,h]
theorem Gj {α:Type} (p:α→Bool) (l:List α):aN (fun j=>!DA p l j) 0 l.length=!l.any p:=by
 rw[←Bool.not_not (b:=aN _ _ _)]
 congr 1
 rw[Bool.eq_iff_iff,zd,List.any_eq_true]
 constructor
 ·rintro ⟨j,_,h1,h2⟩
  have hj:j<l.length:=by omega
  rw[ub p hj] at h2
  exact ⟨_,List.getElem_mem hj,h2⟩
 ·rintro ⟨x,hx,h⟩
  obtain ⟨j,hj,rfl⟩:=List.getElem_of_mem hx
  exact ⟨j,Nat.zero_le _,by omega,by rw[ub p hj];exact h⟩
def wM {α:Type} (p:α→Bool) (l:List α) (i:Nat):Bool:=(l.take i).any p
theorem Da {α:Type} (p:α→Bool) {l:List α} {i:Nat} (h:i<l.length):wM p l (i+1)=(wM p l i||p l[i]):=by
 unfold wM
 rw[List.take_succ_eq_append_getElem h,List.any_append]
 simp only[List.any_cons,List.any_nil,Bool.or_false]
theorem D7 {α:Type} (p:α→Bool) (l:List α):wM p l l.length=l.any p:=by simp[wM]
def oF {α:Type} (p:α→Bool) (l:List α) (i:Nat):Nat:=(l.take i).countP p
theorem Dk {α:Type} (p:α→Bool) {l:List α} {i:Nat} (h:i<l.length):oF p l (i+1)=oF p l i+(bif p l[i] then 1 else 0):=by
 simp only[oF,List.take_succ_eq_append_getElem h,List.countP_append,List.countP_cons,List.countP_nil]
 cases p l[i]<;>simp
theorem E8 {α:Type} (p:α→Bool) (l:List α) (i:Nat):oF p l i≤i:=by
 have:=List.countP_le_length (p:=p) (l:=l.take i)
 simp only[oF,List.length_take] at*
 omega
def jo {α:Type} (p:α→Bool) (g:α→Int) (l:List α) (i:Nat):Int:=((l.take i).map fun x=>bif p x then g x else 0).sum
theorem xM {α:Type} (p:α→Bool) (g:α→Int) {l:List α} {i:Nat} (h:i<l.length):jo p g l (i+1)=jo p g l i+(bif p l[i] then g l[i] else 0):=by
 unfold jo
 rw[List.take_succ_eq_append_getElem h,List.map_append,List.sum_append]
 simp only[List.map_cons,List.map_nil,List.sum_cons,List.sum_nil,Int.add_zero]
theorem yi {α:Type} (p:α→Bool) (g:α→Int) {l:List α} (hl:∀x,x∈l→0≤g x∧g x≤1000):∀i,i≤l.length→0≤jo p g l i∧jo p g l i≤1000*i
 |0,_=>by simp[jo]
 |i+1,h=>by
  have ih:=yi p g hl i (by omega)
  have h2:=hl _ (List.getElem_mem (show i<l.length by omega))
  rw[xM p g (by omega)]
  cases p l[i]<;>simp only[jR,jS]<;>omega
def AD (f:Fl) (c:Cp) (b:Bt) (x:Cp):Bool:=oth c x&&(sEq x.svc c.svc&&(sEq x.at_ b.name&&(x.apart !=0||c.apart !=0)||sEq (lp f x.at_) b.zone&&(x.apart==2||c.apart==2)))
def BU (f:Fl) (c:Cp) (b:Bt) (x:Cp):Bool:=oth c x&&(sEq x.svc c.near&&sEq (lp f x.at_) b.zone)
def Bw (c:Cp) (s:Str) (x:Cp):Bool:=oth c x&&sEq x.svc s
def CJ (f:Fl) (c:Cp) (b:Bt):Bool:=!sEq c.near (mkS [])&&(!f.cps.any (BU f c b)&&(f.cps.any (Bw c c.near)||!sEq c.near c.svc))
def onP (c:Cp) (b:Bt) (x:Cp):Bool:=oth c x&&sEq x.at_ b.name
def kY (f:Fl) (c:Cp) (b:Bt) (o:Bool):Nat:=
 bif b.shut&&!o then 1 else bif !sEq c.fixed (mkS [])&&!sEq c.fixed b.name then 2 else bif !AO c.sel b then 3 else bif f.cps.any (AD f c b) then 4 else bif CJ f c b then 5 else
 bif decide (10≤oF (onP c b) f.cps f.cps.length) then 6 else bif decide (b.room<jo (onP c b) Cp.room f.cps f.cps.length+c.room) then 7 else bif decide (b.hold<jo (onP c b) Cp.hold f.cps f.cps.length+c.hold) then 8 else 0
theorem FT {b:Bt} (h:dV b=true) (s:Str) (hs:sEq s b.name=true):sEq s (mkS [])=false:=by
 cases h0:sEq s (mkS []) with
 |false=>rfl
 |true=>
  have e1:s=b.name:=by rw[fb] at hs;exact hs
  have e2:s=mkS []:=by rw[fb] at h0;exact h0
  rw[e2] at e1
  simp only[dV,Bool.and_eq_true] at h
  have h:=h.1
  rw[←e1] at h
  exact absurd h (by decide)
theorem B8 {f:Fl} (h:VB f):∀x,x∈f.cps→0≤x.room∧x.room≤1000:=fun x hx=>(h.cb x hx).1
theorem BX {f:Fl} (h:VB f):∀x,x∈f.cps→0≤x.hold∧x.hold≤1000:=fun x hx=>(h.cb x hx).2.1
theorem BD {f:Fl} (h:VB f):f.cps.length≤60:=h.n60
end Go.Ev
namespace Go.Ev
section
variable {f:Fl} (hz:f.Sz 1048576) {c:Cp} (hc:c.Sz 1048576) {b:Bt} (hb:b.Sz 1048576) (hbo:dV b=true)
include hz hc hb hbo
theorem tK:bh (f.e++c.e++b.e)=some [.b (f.cps.any (AD f c b))]:=by
 have hlc:f.cps.length<big:=by have:=hz.2.2.1;simp only[big];omega
 have h:=eH (body:=apn 23 bh.d3) (S:=fun i=>[C.i (i:Nat)]++f.e++c.e++b.e) (p:=fun j=>!DA (AD f c b) f.cps j) (n:=f.cps.length) (b:=0) (ys:=[]) (r:=[.b true])
  (fun i hi=>by
   have e3:((i:Int)<(f.cps.length:Int)):=by omega
   have hzo:=p8 f f.cps[i].at_ hz
   simp only[Fl.e,jA,jB] at hzo
   have q1:(f.cps[i].name.toList==c.name.toList)=sEq f.cps[i].name c.name:=rfl
   have q2:(f.cps[i].at_.toList==(bs #[]).toList)=sEq f.cps[i].at_ (mkS []):=rfl
   have q3:(f.cps[i].at_.toList==b.name.toList)=sEq f.cps[i].at_ b.name:=rfl
   have q4:(f.cps[i].svc.toList==c.svc.toList)=sEq f.cps[i].svc c.svc:=rfl
   have q5:((lp f f.cps[i].at_).toList==b.zone.toList)=sEq (lp f f.cps[i].at_) b.zone:=rfl
   simp only[ub _ hi,AD,oth]
   simp only[Fl.e,Cp.e,Bt.e,jA,jB,apL,jC,jD,bh.d3,C.I_i,C.L_l,C.S_s,jW,jY,getD_map' Cp.e hi,e3,decide_true,jR,jX]
   simp only[Cp.e,jC,jD,C.S_s,C.I_i,q1,q2,q3,q4]
   cases sEq f.cps[i].name c.name with
   |true=>simp[bh.d2,w1 hi hlc]
   |false=>
    cases sEq f.cps[i].svc c.svc with
    |false=>simp[bh.d2,w1 hi hlc]
    |true=>
     cases sEq f.cps[i].at_ (mkS []) with
     |true=>simp[bh.d2,w1 hi hlc]
     |false=>
      cases h3:sEq f.cps[i].at_ b.name<;>cases h4:f.cps[i].apart !=0<;>cases h5:c.apart !=0<;>cases h6:sEq (lp f f.cps[i].at_) b.zone<;>cases h7:f.cps[i].apart==2<;>cases h8:c.apart==2<;>
       simp only[ja,jZ,jR,jS,Bool.true_and,Bool.false_and,Bool.and_true,Bool.and_false,Bool.or_true,Bool.or_false,Bool.false_or,Bool.true_or,jJ,Ab,zR,jC,jD,bh.d1,C.S_s,C.I_i,q5,h6,h7,h8,hzo,ae,jI,bg,apL,bh.d2,w1 hi hlc])
  (by simp[bh.d3,Fl.e,Cp.e,Bt.e]) f.cps.length 0 rfl
 simp only[Fl.e,Cp.e,Bt.e,jA,jB,Int.natCast_zero,Gj] at h
 simp only[bh,bh.d5,Fl.e,Cp.e,Bt.e,jA,jB,apL,jC,jD]
 rw[h]
 cases f.cps.any (AD f c b)<;>simp[bh.d4]
theorem Bg:eo (f.e++c.e++b.e)=some [.b (CJ f c b)]:=by
 have hlc:f.cps.length<big:=by have:=hz.2.2.1;simp only[big];omega
 have h:=eH (body:=apn 24 eo.d2) (S:=fun i=>[C.b (wM (Bw c c.near) f.cps i),C.i (i:Nat)]++f.e++c.e++b.e) (p:=fun j=>!DA (BU f c b) f.cps j) (n:=f.cps.length) (b:=0) (ys:=.b (wM (Bw c c.near) f.cps f.cps.length)::c.e) (r:=[.b false])
  (fun i hi=>by
   have e3:((i:Int)<(f.cps.length:Int)):=by omega
   have hzo:=p8 f f.cps[i].at_ hz
   simp only[Fl.e,jA,jB] at hzo
   have q1:(f.cps[i].name.toList==c.name.toList)=sEq f.cps[i].name c.name:=rfl
   have q2:(f.cps[i].at_.toList==(bs #[]).toList)=sEq f.cps[i].at_ (mkS []):=rfl
   have q4:(f.cps[i].svc.toList==c.near.toList)=sEq f.cps[i].svc c.near:=rfl
   have q5:((lp f f.cps[i].at_).toList==b.zone.toList)=sEq (lp f f.cps[i].at_) b.zone:=rfl
   simp only[ub _ hi,BU,oth,Da _ hi]
   generalize wM (Bw c c.near) f.cps i=q
   simp only[Fl.e,Cp.e,Bt.e,jA,jB,apL,jC,jD,eo.d2,C.I_i,C.L_l,C.S_s,jW,jY,getD_map' Cp.e hi,e3,decide_true,jR,jX,Bw,oth]
   simp only[Cp.e,jC,jD,C.S_s,C.I_i,q1,q2,q4]
   cases sEq f.cps[i].name c.name with
   |true=>simp[eo.d1,w1 hi hlc]
   |false=>
    cases sEq f.cps[i].svc c.near with
    |false=>simp[eo.d1,w1 hi hlc]
    |true=>
     cases sEq f.cps[i].at_ (mkS []) with
     |true=>simp[eo.d1,w1 hi hlc]
     |false=>cases h6:sEq (lp f f.cps[i].at_) b.zone<;>simp[eo.d1,w1 hi hlc,hzo,ae,q5,h6])
  (by simp[eo.d2,Fl.e,Cp.e,Bt.e]) f.cps.length 0 rfl
 have h0:wM (Bw c c.near) f.cps 0=false:=by simp[wM]
 have q0:(c.near.toList==(bs #[]).toList)=sEq c.near (mkS []):=rfl
 have q1:(c.near.toList==c.svc.toList)=sEq c.near c.svc:=rfl
 simp only[Fl.e,Cp.e,Bt.e,jA,jB,Int.natCast_zero,Gj,h0,D7] at h
 simp only[eo,eo.d4,Fl.e,Cp.e,Bt.e,jA,jB,apL,jC,jD,C.S_s,q0,CJ]
 rw[h]
 cases sEq c.near (mkS [])<;>cases f.cps.any (BU f c b)<;>cases f.cps.any (Bw c c.near)<;>simp[eo.d3,q1]
theorem zH (hv:VB f) (hr:0≤c.room∧c.room≤1000) (hh:0≤c.hold∧c.hold≤1000) (o:Bool):cH (f.e++c.e++b.e++[.b o])=some [.i (kY f c b o:Nat)]:=by
 have hlc:f.cps.length<big:=by have:=hz.2.2.1;simp only[big];omega
 have h60:=BD hv
 have h:=ep (body:=apn 27 cH.d2) (S:=fun i=>[C.b o,C.i (jo (onP c b) Cp.room f.cps i+c.room),C.i (jo (onP c b) Cp.hold f.cps i+c.hold),C.i (oF (onP c b) f.cps i:Nat),C.i (i:Nat)]++f.e++c.e++b.e) (n:=f.cps.length) (b:=0)
  (ys:=[C.b o,C.i (jo (onP c b) Cp.room f.cps f.cps.length+c.room),C.i (jo (onP c b) Cp.hold f.cps f.cps.length+c.hold),C.i (oF (onP c b) f.cps f.cps.length:Nat)]++f.e++c.e++b.e)
  (fun i hi=>by
   have e3:((i:Int)<(f.cps.length:Int)):=by omega
   have q1:(f.cps[i].name.toList==c.name.toList)=sEq f.cps[i].name c.name:=rfl
   have q3:(f.cps[i].at_.toList==b.name.toList)=sEq f.cps[i].at_ b.name:=rfl
   have b1:=yi (onP c b) Cp.room (B8 hv) i (by omega)
   have b2:=yi (onP c b) Cp.hold (BX hv) i (by omega)
   have b3:=E8 (onP c b) f.cps i
   have b4:=B8 hv _ (List.getElem_mem hi)
   have b5:=BX hv _ (List.getElem_mem hi)
   have w2:w64 (jo (onP c b) Cp.room f.cps i+c.room+f.cps[i].room)=jo (onP c b) Cp.room f.cps i+f.cps[i].room+c.room:=by rw[aZ (by omega) (by omega)];omega
   have w3:w64 (jo (onP c b) Cp.hold f.cps i+c.hold+f.cps[i].hold)=jo (onP c b) Cp.hold f.cps i+f.cps[i].hold+c.hold:=by rw[aZ (by omega) (by omega)];omega
   have w4:=zL (n:=oF (onP c b) f.cps i) (by omega)
   have hon:onP c b f.cps[i]=(!sEq f.cps[i].name c.name&&sEq f.cps[i].at_ b.name):=by
    unfold onP oth
    cases h3:sEq f.cps[i].at_ b.name with
    |true=>rw[FT hbo _ h3];simp
    |false=>simp
   simp only[Fl.e,Cp.e,Bt.e,jA,jB,apL,jC,jD,cH.d2,C.I_i,C.L_l,C.S_s,jW,jY,getD_map' Cp.e hi,e3,decide_true,jR,jX,xM _ _ hi,Dk _ hi,hon]
   simp only[Cp.e,jC,jD,C.S_s,C.I_i,q1,q3]
   cases sEq f.cps[i].name c.name<;>cases sEq f.cps[i].at_ b.name<;>simp[cH.d1,w1 hi hlc,w2,w3,w4])
  (by simp[cH.d2,Fl.e,Cp.e,Bt.e]) f.cps.length 0 rfl
 have z1:jo (onP c b) Cp.room f.cps 0=0:=by simp[jo]
 have z2:jo (onP c b) Cp.hold f.cps 0=0:=by simp[jo]
 have z3:oF (onP c b) f.cps 0=0:=by simp[oF]
 have hsel:=w7 c.sel b hc.2.2.1 hb hbo
 have hT:=tK hz hc hb hbo
 have hF:=Bg hz hc hb hbo
 have q0:(c.fixed.toList==(bs #[]).toList)=sEq c.fixed (mkS []):=rfl
 have q1:(c.fixed.toList==b.name.toList)=sEq c.fixed b.name:=rfl
 simp only[Fl.e,Cp.e,Bt.e,jA,jB,Int.natCast_zero,z1,z2,z3,Int.zero_add] at h hsel hT hF
 simp only[cH,cH.d6,Fl.e,Cp.e,Bt.e,jA,jB,apL,jC,jD]
 rw[h]
 have e6:(10:Int)≤((oF (onP c b) f.cps f.cps.length:Nat):Int)↔10≤oF (onP c b) f.cps f.cps.length:=by omega
 simp only[bg,apL,jC,jD,cH.d5,C.B_b,kY]
 have fin:∀e:Bool,cH.d3 (.i (jo (onP c b) Cp.room f.cps f.cps.length+c.room)) (.i (jo (onP c b) Cp.hold f.cps f.cps.length+c.hold)) (.i (oF (onP c b) f.cps f.cps.length:Nat)) (.b e) (.b f.pack) (.l (f.bts.map Bt.e)) (.l (f.svs.map Sv.e)) (.l (f.cps.map Cp.e))
   (.s c.name) (.s c.svc) (.i c.rank) (.i c.born) (.i c.room) (.i c.hold) (.s c.sel) (.l (c.likes.map Lk.e)) (.i c.apart) (.s c.near) (.s c.fixed) (.s c.at_) (.s b.name) (.s b.zone) (.l (b.marks.map sE)) (.i b.room) (.i b.hold) (.b b.shut)=
   some (.ret [.i (((bif e then 2 else bif !AO c.sel b then 3 else bif f.cps.any (AD f c b) then 4 else bif CJ f c b then 5 else
 bif decide (10≤oF (onP c b) f.cps f.cps.length) then 6 else bif decide (b.room<jo (onP c b) Cp.room f.cps f.cps.length+c.room) then 7 else bif decide (b.hold<jo (onP c b) Cp.hold f.cps f.cps.length+c.hold) then 8 else 0:Nat):Nat):Int)]):=by
  intro e
  simp only[cH.d3,C.B_b,C.I_i,hsel,hT,hF,ae,jI,jC,ge_iff_le,e6,gt_iff_lt]
  cases e
  ·simp only[jS]
   cases AO c.sel b
   ·rfl
   ·simp only[jZ,jS]
    cases f.cps.any (AD f c b)
    ·simp only[jS]
     cases CJ f c b
     ·simp only[jS]
      cases decide (10≤oF (onP c b) f.cps f.cps.length)
      ·simp only[jS]
       cases decide (b.room<jo (onP c b) Cp.room f.cps f.cps.length+c.room)
       ·simp only[jS]
        cases decide (b.hold<jo (onP c b) Cp.hold f.cps f.cps.length+c.hold)<;>rfl
       ·rfl
      ·rfl
     ·rfl
    ·rfl
  ·rfl
 generalize (bif !AO c.sel b then 3 else bif f.cps.any (AD f c b) then 4 else bif CJ f c b then 5 else
 bif decide (10≤oF (onP c b) f.cps f.cps.length) then 6 else bif decide (b.room<jo (onP c b) Cp.room f.cps f.cps.length+c.room) then 7 else bif decide (b.hold<jo (onP c b) Cp.hold f.cps f.cps.length+c.hold) then 8 else 0:Nat)=N at fin⊢
 cases hs:b.shut<;>rw[hs] at fin<;>cases o<;>cases h1:sEq c.fixed (mkS [])<;>cases h2:sEq c.fixed b.name<;>
  simp only[cH.d4,q0,q1,h1,h2,fin,C.B_b,C.S_s,jR,jS,jZ,ja,Bool.and_true,Bool.and_false,Bool.true_and,Bool.false_and,jJ,apL,jC,jD,jV]<;>rfl
end
end Go.Ev
namespace Go.Ev
section
variable {f:Fl} (hz:f.Sz 1048576) {c:Cp} (hc:c.Sz 1048576) {b:Bt} (hb:b.Sz 1048576) (hbo:dV b=true)
include hz hc hb hbo
end
end Go.Ev
namespace Go.Ev
section
variable {f:Fl} (hz:f.Sz 1048576) (cn bn_:Str)
include hz
end
def better (p:Bool) (a b:Int×Int×Int×Int):Bool:=bif a.1 !=b.1 then decide (a.1>b.1) else bif a.2.1 !=b.2.1 then decide (a.2.1<b.2.1) else bif a.2.2.1 !=b.2.2.1 then decide (a.2.2.1<b.2.2.1) else bif p then decide (a.2.2.2<b.2.2.2) else decide (a.2.2.2>b.2.2.2)
def y8 (f:Fl) (c:Cp) (b:Bt):Int×Int×Int×Int:=(B0 c.likes b c.likes.length,(BJ f c b f.cps.length:Nat),(yh f c b f.cps.length:Nat),BG f c b f.cps.length)
def ID (f:Fl) (c:Cp) (i:Int) (b:Bt):Bool:=decide (i<0)||match f.bts[i.toNat]? with|some y=>better f.pack (y8 f c b) (y8 f c y)|none=>true
def uF (f:Fl) (c:Cp):Nat→Int
 |0=>-1
 |i+1=>match f.bts[i]? with
  |some b=>bif kY f c b false==0&&ID f c (uF f c i) b then i else uF f c i
  |none=>uF f c i
def BW (f:Fl) (c:Cp):Str:=match f.bts[(uF f c f.bts.length).toNat]? with
 |some b=>if uF f c f.bts.length<0 then mkS [] else b.name
 |none=>mkS []
section
variable {f:Fl} (hz:f.Sz 1048576) {c:Cp} (hc:c.Sz 1048576) (hv:VB f) (hr:0≤c.room∧c.room≤1000) (hh:0≤c.hold∧c.hold≤1000) (ha:0≤c.apart∧c.apart≤2)
include hz hc hv hr hh ha
end
end Go.Ev
namespace Go.Ev
section
variable {f:Fl} (hz:f.Sz 1048576) {c:Cp} (hc:c.Sz 1048576) (hv:VB f) (hr:0≤c.room∧c.room≤1000) (hh:0≤c.hold∧c.hold≤1000) (ha:0≤c.apart∧c.apart≤2)
include hz hc hv hr hh ha
end
section
variable {f:Fl} (hz:f.Sz 1048576) (cn:Str)
include hz
end
end Go.Ev
namespace Go.Ev
theorem qF {α:Type} (p:α→Bool):∀(l:List α) (n:Nat),dI p l n<0→l.any p=false
 |[],_,_=>rfl
 |x::r,n,h=>by
  simp only[dI] at h
  cases hp:p x with
  |true=>rw[hp,jR] at h;omega
  |false=>rw[hp,jS] at h;simp[hp,qF p r (n+1) h]
def Hq (f:Fl) (c:Cp):Bool:=!sEq c.at_ (mkS [])&&match f.bts[(bIx f c.at_).toNat]? with|some b=>!(kY f c b true==0)|none=>false
def Hc (f:Fl) (i:Nat):List Str:=((f.cps.take i).filter (Hq f)).map Cp.name
def FJ (f:Fl):List Str:=bif bJ f then Hc f f.cps.length else []
section
variable {f:Fl} (hz:f.Sz 1048576)
include hz
end
end Go.Ev
namespace Go.Ev
end Go.Ev
namespace Go.Ev
end Go.Ev
namespace Go.Ev
end Go.Ev
namespace Go.Ev
end Go.Ev
namespace Go.Ev
end Go.Ev
namespace Go.Ev
end Go.Ev
namespace Go.Ev
theorem ltL {i n:Nat} (h:i<n):decide ((i:Int)<(n:Int))=true:=by simp;omega
end Go.Ev
namespace Go.Ev
theorem pN {α:Type} (e:α→List C) {l:List α} {i:Nat} (h:i<l.length):(l.take i).map e++[e l[i]]=(l.take (i+1)).map e:=by
 rw[List.take_succ_eq_append_getElem h,List.map_append];rfl
theorem mu {b:Bt} (h:b.marks.length≤1048576):eR b.e=some b.o:=by
 have:b.marks.length≤4294967296:=by omega
 simp[eR,eR.d1,Bt.e,Bt.o,this]
theorem oG {b:Bt} (h:b.marks.length≤1048576):fS b.e=some b.o:=by
 have:b.marks.length≤4294967296:=by omega
 simp[fS,fS.d1,Bt.e,Bt.o,this]
theorem nQ {c:Cp} (h:c.likes.length≤1048576):fo c.e=some c.o:=by
 have:c.likes.length≤4294967296:=by omega
 simp[fo,fo.d1,Cp.e,Cp.o,this]
theorem ml {c:Cp} (h:c.likes.length≤1048576):gN c.e=some c.o:=by
 have:c.likes.length≤4294967296:=by omega
 simp[gN,gN.d1,Cp.e,Cp.o,this]
section
variable {f:Fl} (hz:f.Sz 1048576)
include hz
theorem iJ:da f.e=some f.e:=by
 have hlb:f.bts.length<big:=by have:=hz.1.1;simp only[big];omega
 have hlc:f.cps.length<big:=by have:=hz.2.2.1;simp only[big];omega
 have h1:=ep (body:=apn 15 da.d1) (S:=fun i=>[C.l (f.bts.map Bt.e),C.i (f.bts.length:Nat),C.i (i:Nat)]++f.e++[C.b false,C.b f.pack,.l ah,.l ah,.l ah,C.l ((f.bts.take i).map Bt.e),C.l (f.svs.map Sv.e),.l ah]) (n:=f.bts.length) (b:=0) (ys:=f.e++[C.b false,C.b f.pack,.l ah,.l ah,.l ah,C.l ((f.bts.take f.bts.length).map Bt.e),C.l (f.svs.map Sv.e),.l ah])
  (fun i hi=>by
   have hc:=mu (hz.1.2 _ (List.getElem_mem hi)).2.2.1
   have hn:(f.bts.take i).length+1≤4294967296:=by rw[List.length_take];have:=hz.1.1;omega
   have sn:=pN Bt.e hi
   simp only[Bt.e,Bt.o] at hc
   simp only[Fl.e,jA,jB,apL,jC,jD,da.d1,C.I_i,C.L_l,jW,jY,getD_map' Bt.e hi,ltL hi,decide_true,jR,jX,w1 hi hlb]
   simp only[Bt.e] at sn
   simp only[Bt.e,jC,jD,hc,call6,jI,C.L_l,rows,List.length_cons,List.length_nil,Nat.zero_add,hn,decide_true,jR,sn])
  (by simp[da.d1,Fl.e]) f.bts.length 0 rfl
 have h2:=ep (body:=apn 11 da.d2) (S:=fun i=>[C.l (f.cps.map Cp.e),C.i (f.cps.length:Nat),C.i (i:Nat)]++[C.b false,C.b f.pack,.l ah,.l ah,.l ah,C.l (f.bts.map Bt.e),C.l (f.svs.map Sv.e),C.l ((f.cps.take i).map Cp.e)]) (n:=f.cps.length) (b:=2) (ys:=[C.b false,C.b f.pack,.l ah,.l ah,.l ah,C.l (f.bts.map Bt.e),C.l (f.svs.map Sv.e),C.l ((f.cps.take f.cps.length).map Cp.e)])
  (fun i hi=>by
   have hc:=nQ (hz.2.2.2 _ (List.getElem_mem hi)).2.2.2.2.2.2.1
   have hn:(f.cps.take i).length+1≤4294967296:=by rw[List.length_take];have:=hz.2.2.1;omega
   have sn:=pN Cp.e hi
   simp only[Cp.e,Cp.o] at hc
   simp only[jA,jB,apL,jC,jD,da.d2,C.I_i,C.L_l,jW,jY,getD_map' Cp.e hi,ltL hi,decide_true,jR,jX,w1 hi hlc]
   simp only[Cp.e] at sn
   simp only[Cp.e,jC,jD,hc,call12,jI,C.L_l,rows,List.length_cons,List.length_nil,Nat.zero_add,hn,decide_true,jR,sn])
  (by simp[da.d2]) f.cps.length 0 rfl
 have hs:f.svs.length≤4294967296:=by have:=hz.2.1.1;omega
 simp only[Fl.e,jA,jB,Int.natCast_zero,List.take_zero,List.map_nil,List.take_length] at h1 h2
 simp only[da,da.d5,Fl.e,apL,jC,jD,C.L_l,C.B_b,jW,hs,decide_true,jR]
 rw[show ah=([]:List (List C)) from rfl] at h1 h2⊢
 rw[h1]
 simp only[bg,apL,jC,jD,da.d4,C.L_l,jW]
 rw[h2]
 simp[da.d3]
theorem eL:cj f.e=some f.e:=by
 have hlb:f.bts.length<big:=by have:=hz.1.1;simp only[big];omega
 have hlc:f.cps.length<big:=by have:=hz.2.2.1;simp only[big];omega
 have h1:=ep (body:=apn 13 cj.d1) (S:=fun i=>[C.i (i:Nat)]++f.e++[C.b false,C.b f.pack,.l ah,.l ah,.l ah,C.l ((f.bts.take i).map Bt.e),C.l (f.svs.map Sv.e),.l ah]) (n:=f.bts.length) (b:=0) (ys:=f.e++[C.b false,C.b f.pack,.l ah,.l ah,.l ah,C.l ((f.bts.take f.bts.length).map Bt.e),C.l (f.svs.map Sv.e),.l ah])
  (fun i hi=>by
   have hc:=oG (hz.1.2 _ (List.getElem_mem hi)).2.2.1
   have hn:(f.bts.take i).length+1≤4294967296:=by rw[List.length_take];have:=hz.1.1;omega
   have sn:=pN Bt.e hi
   simp only[Bt.e,Bt.o] at hc
   simp only[Fl.e,jA,jB,apL,jC,jD,cj.d1,C.I_i,C.L_l,jW,jY,getD_map' Bt.e hi,ltL hi,decide_true,jR,jX,w1 hi hlb]
   simp only[Bt.e] at sn
   simp only[Bt.e,jC,jD,hc,call6,jI,C.L_l,rows,List.length_cons,List.length_nil,Nat.zero_add,hn,decide_true,jR,sn])
  (by simp[cj.d1,Fl.e]) f.bts.length 0 rfl
 have h2:=ep (body:=apn 13 cj.d2) (S:=fun i=>[C.i (i:Nat)]++f.e++[C.b false,C.b f.pack,.l ah,.l ah,.l ah,C.l (f.bts.map Bt.e),C.l (f.svs.map Sv.e),C.l ((f.cps.take i).map Cp.e)]) (n:=f.cps.length) (b:=2) (ys:=[C.b false,C.b f.pack,.l ah,.l ah,.l ah,C.l (f.bts.map Bt.e),C.l (f.svs.map Sv.e),C.l ((f.cps.take f.cps.length).map Cp.e)])
  (fun i hi=>by
   have hc:=ml (hz.2.2.2 _ (List.getElem_mem hi)).2.2.2.2.2.2.1
   have hn:(f.cps.take i).length+1≤4294967296:=by rw[List.length_take];have:=hz.2.2.1;omega
   have sn:=pN Cp.e hi
   simp only[Cp.e,Cp.o] at hc
   simp only[Fl.e,jA,jB,apL,jC,jD,cj.d2,C.I_i,C.L_l,jW,jY,getD_map' Cp.e hi,ltL hi,decide_true,jR,jX,w1 hi hlc]
   simp only[Cp.e] at sn
   simp only[Cp.e,jC,jD,hc,call12,jI,C.L_l,rows,List.length_cons,List.length_nil,Nat.zero_add,hn,decide_true,jR,sn])
  (by simp[cj.d2,Fl.e]) f.cps.length 0 rfl
 have hs:0+f.svs.length≤4294967296:=by have:=hz.2.1.1;omega
 simp only[Fl.e,jA,jB,Int.natCast_zero,List.take_zero,List.map_nil,List.take_length] at h1 h2
 rw[show ah=([]:List (List C)) from rfl] at h1 h2
 simp only[cj,cj.d5,Fl.e,apL,jC,jD,C.L_l,C.B_b,jW,show ah=([]:List (List C)) from rfl,List.length_nil,hs,decide_true,jR,jB]
 rw[h1]
 simp only[bg,apL,jC,jD,cj.d4,C.L_l,jW]
 rw[h2]
 simp[cj.d3]
end
end Go.Ev
namespace Go.Ev
theorem nL:∀(a b c:List UInt8),Op.bytesLess a b=true→Op.bytesLess b c=true→Op.bytesLess a c=true
 |_,_,[],_,h2=>by cases ‹List UInt8›<;>simp[Op.bytesLess] at h2
 |_,[],_::_,h1,_=>by simp[Op.bytesLess] at h1
 |[],_::_,_::_,_,_=>by simp[Op.bytesLess]
 |x::a,y::b,z::c,h1,h2=>by
  simp only[Op.bytesLess,Bool.or_eq_true,Bool.and_eq_true,decide_eq_true_eq,beq_iff_eq] at h1 h2⊢
  have lt (p q:UInt8):p<q↔p.toNat<q.toNat:=Iff.rfl
  simp only[lt] at h1 h2⊢
  rcases h1 with h1|⟨rfl,h1⟩
  ·rcases h2 with h2|⟨rfl,h2⟩
   ·left;omega
   ·left;exact h1
  ·rcases h2 with h2|⟨rfl,h2⟩
   ·left;exact h2
   ·right;exact ⟨rfl,nL a b c h1 h2⟩
theorem qa:∀(a:List UInt8),Op.bytesLess a a=false
 |[]=>rfl
 |x::r=>by
  have ih:=qa r
  simp only[Op.bytesLess,ih]
  simp
theorem uv (a:Str):sLt a a=false:=qa _
theorem sj {a b c:Str} (h1:sLt a b=true) (h2:sLt b c=true):sLt a c=true:=nL _ _ _ h1 h2
theorem Bp {α:Type} {lt:α→α→Bool} {l:List α} (ht:∀a b c,lt a b=true→lt b c=true→lt a c=true) (h:∀i (h:i+1<l.length),lt (l[i]'(by omega)) l[i+1]=true):
  ∀(d i:Nat) (hj:i+d+1<l.length),lt (l[i]'(by omega)) l[i+d+1]=true
 |0,i,hj=>h i hj
 |d+1,i,hj=>ht _ _ _ (Bp ht h d i (by omega)) (h (i+d+1) (by omega))
def Cq (l:List Cp):Prop:=∀(i k:Nat) (hi:i<l.length) (hk:k<l.length),sEq l[i].name l[k].name=true→i=k
theorem Ah {f:Fl} (h:bJ f=true) (d i:Nat) (hj:i+d+1<f.cps.length):sLt (f.cps[i]'(by omega)).name f.cps[i+d+1].name=true:=by
 refine Bp (lt:=fun a b:Cp=>sLt a.name b.name) (fun a b c=>sj) (fun i hi=>?_) d i hj
 simp only[bJ,Bool.and_eq_true] at h
 have:=(eS _ _ _).1 h.2.2.2.2.1 (i+1) (Nat.zero_le _) (by omega)
 have hi':i<f.cps.length:=by omega
 have e:(i+1==0)=false:=rfl
 simp only[cpA,List.getElem?_eq_getElem hi,Nat.add_sub_cancel,List.getElem?_eq_getElem hi',e,Bool.false_or,Bool.and_eq_true] at this
 exact this.2.2.1
def mi {α:Type} (g:α→α) (l:List α) (i:Nat):List α:=(l.take i).map g++l.drop i
theorem oh {α:Type} (g:α→α) (l:List α) (i:Nat):(mi g l i).length=l.length:=by simp[mi];omega
theorem u0 {α:Type} (g:α→α) {l:List α} {i:Nat} (h:i<l.length):(mi g l i)[i]?=some l[i]:=by
 simp only[mi]
 rw[List.getElem?_append_right (by simp;omega)]
 simp[Nat.min_eq_left (Nat.le_of_lt h),h]
theorem wA {α:Type} (g:α→α) {l:List α} {i:Nat} (h:i<l.length):(mi g l i).set i (g l[i])=mi g l (i+1):=by
 have hl:((l.take i).map g).length=i:=by simp;omega
 simp only[mi]
 rw[List.set_append_right _ _ (by omega),hl,Nat.sub_self,List.drop_eq_getElem_cons h,List.set_cons_zero,List.take_succ_eq_append_getElem h,List.map_append,List.append_assoc]
 rfl
theorem xT {α:Type} (g:α→α) {l:List α} {i:Nat} (h:i<l.length) (e:g l[i]=l[i]):mi g l (i+1)=mi g l i:=by
 rw[←wA g h,e]
 refine List.ext_getElem? fun j=>?_
 rw[List.getElem?_set]
 split
 ·rename_i h1
  subst h1
  rw[oh,if_pos h,u0 g h]
 ·rfl
theorem zv {α:Type} (g:α→α) (l:List α):mi g l l.length=l.map g:=by simp[mi]
def inS (g:List Str) (s:Str):Bool:=g.any fun x=>sEq s x
def goC (g:List Str) (c:Cp):Cp:=bif inS g c.name then {c with at_:=mkS []} else c
def goF (f:Fl) (g:List Str):Fl:= {f with cps:=f.cps.map (goC g)}
section
variable {f:Fl} (hz:f.Sz 1048576) (g:List Str) (hg:g.length≤1048576)
include hz hg
end
end Go.Ev
namespace Go.Ev
structure Sp where
 copy:Str
 berth:Str
 gone:List Str
def Sp.e (s:Sp):List C:=[.s s.copy,.s s.berth,.l (s.gone.map sE)]
def Sp.Sz (K:Nat) (s:Sp):Prop:=s.copy.size≤K∧s.berth.size≤K∧zJ K s.gone
def fl0:Fl:=⟨false,[],[],[]⟩
def setAt (f:Fl) (i:Nat) (c:Cp) (b:Str):Fl:= {f with cps:=f.cps.set i {c with at_:=b}}
section
variable {f:Fl} (hz:f.Sz 1048576) {s:Sp} (hs:s.Sz 1048576)
include hz hs
end
end Go.Ev
namespace Go.Ev
theorem DM:fl0.Sz 1048576:=by refine ⟨⟨by simp[fl0],fun _ h=>?_⟩,⟨by simp[fl0],fun _ h=>?_⟩,by simp[fl0],fun _ h=>?_⟩<;>simp[fl0] at h
theorem Dt {f:Fl} (hz:f.Sz 1048576) {c:Cp} (hc:c.Sz 1048576) {b:Str} (hb:b.size≤1048576) (i:Nat):(setAt f i c b).Sz 1048576:=by
 refine ⟨hz.1,hz.2.1,by simp only[setAt,List.length_set];exact hz.2.2.1,fun x hx=>?_⟩
 simp only[setAt] at hx
 rcases List.mem_or_eq_of_mem_set hx with h|rfl
 ·exact hz.2.2.2 x h
 ·exact ⟨hc.1,hc.2.1,hc.2.2.1,hc.2.2.2.1,hc.2.2.2.2.1,hb,hc.2.2.2.2.2.2⟩
end Go.Ev
namespace Go.Ev
def HP (r:Int) (l:List Int):Nat:=(l.takeWhile fun x=>decide (x≥r)).length
def IK (r:Int) (l:List Int):List Int:=l.take (HP r l)++r::l.drop (HP r l)
def Hm (l:List Int):List Int:=l.foldl (fun a r=>IK r a) []
end Go.Ev
namespace Go.Ev
def GP (f:Fl) (s:Str):Int:=match f.cps[(cIx f s).toNat]? with|some c=>c.rank|none=>0
def Em (f:Fl) (g:List Str) (j:Nat):Bool:=decide (0≤cIx f (sAt g j))
def EU (f:Fl) (g:List Str):List Int:=g.map (GP f)
section
variable {f:Fl} (hz:f.Sz 1048576) (g:List Str) (hg:zJ 1048576 g)
include hz hg
end
end Go.Ev
namespace Go.Ev
section
variable {α:Type} (lt:α→α→Bool)
def Im (c:α) (l:List α):Nat:=(l.takeWhile fun x=>lt x c).length
def IH (c:α) (l:List α):List α:=l.take (Im lt c l)++c::l.drop (Im lt c l)
def IG (l:List α):List α:=l.foldl (fun a c=>IH lt c a) []
end
def ahd (a b:Cp):Bool:=ltE a.rank a.born a.name b.rank b.born b.name
def DG (c:Cp):Bool:=sEq c.at_ (mkS [])
def waits (f:Fl):List Cp:=f.cps.filter DG
def queue (f:Fl):List Cp:=IG ahd (waits f)
theorem Dv {l:List Cp} (hu:Cq l) {x y:Cp} (hx:x∈l) (hy:y∈l) (h:sEq x.name y.name=true):x=y:=by
 obtain ⟨i,hi,rfl⟩:=List.getElem_of_mem hx
 obtain ⟨k,hk,rfl⟩:=List.getElem_of_mem hy
 have:=hu i k hi hk h
 subst this;rfl
section
variable {f:Fl} (hz:f.Sz 1048576)
include hz
end
end Go.Ev
namespace Go.Ev
section
variable {f:Fl} (hz:f.Sz 1048576)
include hz
end
end Go.Ev
namespace Go.Ev
def CH {α:Type} (lt:α→α→Bool):List α→List α→Int
 |[],[]=>0
 |[],_::_=>-1
 |_::_,[]=>1
 |x::a,y::b=>bif lt x y then-1 else bif lt y x then 1 else CH lt a b
def ltI (x y:Int):Bool:=decide (x<y)
end Go.Ev
namespace Go.Ev
def HZ (c:Cp) (b:Bt) (d:Cp):Bool:=sEq d.at_ b.name&&decide (d.rank<c.rank)
def ED (f:Fl) (c:Cp) (b:Bt):List Cp:=f.cps.filter (HZ c b)
def HS (set i:Nat):Bool:=set/2^i%2==1
def F5 (l:List Cp) (set:Nat):Nat→List Cp
 |0=>[]
 |i+1=>match l[i]? with
  |some d=>bif HS set i then F5 l set i++[d] else F5 l set i
  |none=>F5 l set i
def IJ (f:Fl) (c:Cp) (b:Bt) (set:Nat):List Str:=(F5 (ED f c b) set (ED f c b).length).map Cp.name
structure xi (f:Fl) (l:List Str):Prop where
 len:l.length≤f.cps.length
 mem:∀s,s∈l→∃d,d∈f.cps∧d.name=s
theorem Eh {f:Fl} (hu:Cq f.cps) {d:Cp} (hd:d∈f.cps):∃k,∃hk:k<f.cps.length,cIx f d.name=(k:Nat)∧f.cps[k]=d:=by
 rcases qm f d.name with h|⟨k,hk,h,e⟩
 ·have:=qF _ _ _ h
  have h2:f.cps.any (fun x:Cp=>sEq x.name d.name)=true:=List.any_eq_true.2 ⟨d,hd,(fb _ _).2 rfl⟩
  rw[this] at h2;cases h2
 ·exact ⟨k,hk,h,Dv hu (List.getElem_mem hk) hd e⟩
theorem xi.sz {f:Fl} {l:List Str} (h:xi f l) (hz:f.Sz 1048576):zJ 1048576 l:=by
 refine ⟨Nat.le_trans h.len hz.2.2.1,fun s hs=>?_⟩
 obtain ⟨d,hd,rfl⟩:=h.mem s hs
 exact (hz.2.2.2 d hd).1
theorem xi.ix {f:Fl} {l:List Str} (h:xi f l) (hu:Cq f.cps):∀j (hj:j<l.length),∃k,∃hk:k<f.cps.length,cIx f l[j]=(k:Nat)∧sEq f.cps[k].name l[j]=true:=by
 intro j hj
 obtain ⟨d,hd,e⟩:=h.mem l[j] (List.getElem_mem hj)
 obtain ⟨k,hk,h1,h2⟩:=Eh hu hd
 exact ⟨k,hk,by rw[←e];exact h1,by rw[h2,e];exact (fb _ _).2 rfl⟩
theorem xi.there {f:Fl} {l:List Str} (h:xi f l) (hu:Cq f.cps):aN (Em f l) 0 l.length=true:=by
 rw[eS]
 intro j _ hj
 have hj:j<l.length:=by omega
 obtain ⟨k,hk,h1,_⟩:=h.ix hu j hj
 rw[Em,hP hj,h1]
 simp
def tD (f:Fl) (l:List Str):List Int:=Hm (EU f l)
def Ij (f:Fl) (l best:List Str):Bool:=decide (0<CH ltI (tD f l) (tD f best))||(CH ltI (tD f l) (tD f best)==0&&decide (0≤CH sLt l best))
def IM (f:Fl) (c:Cp) (b:Bt) (l:List Str):Bool:=Ip f l&&(kY (goF f l) c b false==0)
def HT (f:Fl) (c:Cp) (b:Bt) (st:Option (List Str)) (l:List Str):Option (List Str):=
 bif (match st with|some best=>Ij f l best|none=>false) then st else bif IM f c b l then some l else st
def vic (f:Fl) (c:Cp) (b:Bt):Nat→Option (List Str)
 |0=>none
 |k+1=>HT f c b (vic f c b k) (IJ f c b k)
end Go.Ev
namespace Go.Ev
section
variable {f:Fl} (hz:f.Sz 1048576) {c:Cp} (hc:c.Sz 1048576) {b:Bt} (hb:b.Sz 1048576) (hbo:dV b=true) (hv:bJ f=true) (hr:0≤c.room∧c.room≤1000) (hh:0≤c.hold∧c.hold≤1000)
include hz hc hb hbo hv hr hh
def Hw (f:Fl) (c:Cp) (b:Bt):Option (List Str):=vic f c b (2^(ED f c b).length)
end
end Go.Ev
namespace Go.Ev
section
variable {f:Fl} (hz:f.Sz 1048576) {c:Cp} (hc:c.Sz 1048576) {b:Bt} (hb:b.Sz 1048576) (hbo:dV b=true) (hv:bJ f=true) (hr:0≤c.room∧c.room≤1000) (hh:0≤c.hold∧c.hold≤1000) (ha:0≤c.apart∧c.apart≤2)
include hz hc hb hbo hv hr hh ha
end
end Go.Ev
namespace Go.Ev
section
variable {f:Fl} (hz:f.Sz 1048576) (cn bn:Str)
include hz
end
end Go.Ev
namespace Go.Ev
theorem CE {f:Fl} (h:bJ f=true) (d i:Nat) (hj:i+d+1<f.bts.length):sLt (f.bts[i]'(by omega)).name f.bts[i+d+1].name=true:=by
 refine Bp (lt:=fun a b:Bt=>sLt a.name b.name) (fun a b c=>sj) (fun i hi=>?_) d i hj
 simp only[bJ,Bool.and_eq_true] at h
 have:=(eS _ _ _).1 h.2.2.2.2.2.1 (i+1) (Nat.zero_le _) (by omega)
 have hi':i<f.bts.length:=by omega
 have e:(i+1==0)=false:=rfl
 simp only[btA,List.getElem?_eq_getElem hi,Nat.add_sub_cancel,List.getElem?_eq_getElem hi',e,Bool.false_or,Bool.and_eq_true] at this
 exact this.2
abbrev FSt:=Option (Bt×List Str)
def Ii (f:Fl) (c:Cp) (b:Bt) (l:List Str) (b0:Bt) (l0:List Str):Bool:=
 decide (0<CH ltI (tD f l) (tD f l0))||(CH ltI (tD f l) (tD f l0)==0&&!better f.pack (y8 (goF f l) c b) (y8 (goF f l0) c b0))
def Fw (f:Fl) (c:Cp) (st:FSt) (b:Bt):FSt:=match Hw f c b with
 |none=>st
 |some l=>match st with
  |none=>some (b,l)
  |some (b0,l0)=>bif Ii f c b l b0 l0 then st else some (b,l)
def force (f:Fl) (c:Cp):Nat→FSt
 |0=>none
 |i+1=>match f.bts[i]? with|some b=>Fw f c (force f c i) b|none=>force f c i
theorem be (b:Bt):b.e=[.s b.name,.s b.zone,.l (b.marks.map sE),.i b.room,.i b.hold,.b b.shut]:=rfl
section
variable {f:Fl} (hz:f.Sz 1048576) {c:Cp} (hc:c.Sz 1048576) (hv:bJ f=true) (hr:0≤c.room∧c.room≤1000) (hh:0≤c.hold∧c.hold≤1000) (ha:0≤c.apart∧c.apart≤2)
include hz hc hv hr hh ha
end
end Go.Ev
namespace Go.Ev
abbrev Stp:=Str×Str×List Str
def Iw (f:Fl) (c:Cp):Option Stp:=bif sEq (BW f c) (mkS []) then none else some (c.name,BW f c,[])
section
variable {f:Fl} (hz:f.Sz 1048576) (hv:bJ f=true)
include hz hv
end
end Go.Ev
namespace Go.Ev
def atP (nm:Str) (x:Cp):Bool:=sEq x.at_ nm
def GU (p:Cp→Bool) (g:Cp→Int) (l:List Cp):Int:=(l.map fun x=>bif p x then g x else 0).sum
structure VF (f:Fl):Prop where
 n12:f.bts.length≤12
 n30:f.svs.length≤30
 n60:f.cps.length≤60
 sv:aN (svA f) 0 f.svs.length=true
 cp:∀i (h:i<f.cps.length),ju f.cps[i]=true∧f.svs.any (fun s=>sEq s.name f.cps[i].svc)=true∧(∀h':0<i,sLt (f.cps[i-1]'(by omega)).name f.cps[i].name=true)∧(sEq f.cps[i].at_ (mkS [])=true∨f.bts.any (fun b=>sEq b.name f.cps[i].at_)=true)
 bt:aN (btA f) 0 f.bts.length=true
 fit:∀b,b∈f.bts→GU (atP b.name) Cp.room f.cps≤b.room∧GU (atP b.name) Cp.hold f.cps≤b.hold∧GU (atP b.name) (fun _=>1) f.cps≤10
end Go.Ev
namespace Go.Ev
end Go.Ev
namespace Go.Ev
def Hy (f:Fl):Option Stp:=(queue f).findSome? (Iw f)
def plF (f:Fl) (x:Stp):Fl:=match f.cps[(cIx f x.1).toNat]? with|some c=>setAt f (cIx f x.1).toNat c x.2.1|none=>f
structure Gu (f:Fl) (x:Stp) where
 i:Nat
 hi:i<f.cps.length
 b:Bt
 hb:b∈f.bts
 e:x=(f.cps[i].name,b.name,[])
 ix:cIx f f.cps[i].name=(i:Nat)
 w:sEq f.cps[i].at_ (mkS [])=true
 fit:kY f f.cps[i] b false=0
 put:plF f x=setAt f i f.cps[i] b.name
theorem Gu.sz {f:Fl} {x:Stp} (F:Gu f x) (hz:f.Sz 1048576):(plF f x).Sz 1048576:=by
 rw[F.put]
 exact Dt hz (hz.2.2.2 _ (List.getElem_mem F.hi)) (hz.1.2 _ F.hb).1 _
def stS (x:Stp):Sp:=⟨x.1,x.2.1,x.2.2⟩
def place:Nat→Fl→List Sp→Fl×List Sp
 |0,f,s=>(f,s)
 |k+1,f,s=>match Hy f with
  |some x=>place k (plF f x) (s++[stS x])
  |none=>(f,s)
end Go.Ev
namespace Go.Ev
section
variable {f:Fl} (hz:f.Sz 1048576)
include hz
end
section
variable {f:Fl} {s:List Sp} (hv:VF f) (hz:f.Sz 1048576) (hs:s.length≤60)
include hv hz hs
end
end Go.Ev
namespace Go.Ev
end Go.Ev
namespace Go.Ev
end Go.Ev
namespace Go.Ev
def BY (bs:List (List C)):Prop:=∀r,r∈bs→∃n:Int,r=[.i n]∧0≤n∧n≤255
theorem BY.get {bs:List (List C)} (h:BY bs) (k:Nat):0≤((bs.getD k []).getD 0 .nil).I∧((bs.getD k []).getD 0 .nil).I≤255:=by
 have hr:bs.getD k []=[]∨bs.getD k []∈bs:=by
  rcases Nat.lt_or_ge k bs.length with h|h
  ·right
   have:bs.getD k []=bs[k]:=by rw[List.getD_eq_getElem?_getD,List.getElem?_eq_getElem h];rfl
   rw[this];exact List.getElem_mem h
  ·left
   rw[List.getD_eq_getElem?_getD,List.getElem?_eq_none h];rfl
 generalize bs.getD k []=r at hr
 rcases hr with rfl|hr
 ·exact ⟨Int.le_refl 0,by decide⟩
 ·obtain ⟨n,rfl,h0,h1⟩:=h r hr
  exact ⟨h0,h1⟩
theorem GS {x y:Int} (hx:0≤x∧x<1152921504606846976) (hy:0≤y∧y<1152921504606846976):0≤w64 ((BitVec.ofInt (IntKind.bits .i64) x^^^BitVec.ofInt (IntKind.bits .i64) y).toNat:Int)∧w64 ((BitVec.ofInt (IntKind.bits .i64) x^^^BitVec.ofInt (IntKind.bits .i64) y).toNat:Int)<1152921504606846976:=by
 have e:∀z:Int,0≤z∧z<1152921504606846976→(BitVec.ofInt (IntKind.bits .i64) z).toNat=z.toNat:=fun z hz=>by
  rw[BitVec.toNat_ofInt]
  have:(2:Int)^IntKind.bits .i64=18446744073709551616:=by decide
  have h2:((2^IntKind.bits .i64:Nat):Int)=18446744073709551616:=by decide
  rw[h2,Int.emod_eq_of_lt hz.1 (by omega)]
 have h:(BitVec.ofInt (IntKind.bits .i64) x^^^BitVec.ofInt (IntKind.bits .i64) y).toNat<2^60:=by
  rw[BitVec.toNat_xor,e x hx,e y hy]
  exact Nat.xor_lt_two_pow (by omega) (by omega)
 generalize (BitVec.ofInt (IntKind.bits .i64) x^^^BitVec.ofInt (IntKind.bits .i64) y).toNat=m at*
 have:(2:Nat)^60=1152921504606846976:=by decide
 rw[aZ (by omega) (by omega)]
 omega
theorem aU {bs:List (List C)} (hb:BY bs) (hl:bs.length≤2000) {p n:Int} (h0:0≤p) (h1:p≤1125899906842624) (hn:1≤n) (hn2:n≤4294967296):
  ∃k:Nat,(k:Int)<n∧ad [.i n,.l bs,.i p]=some [.i k,.l bs,.i (p+1)]:=by
 have w1:w64 (p+1)=p+1:=aZ (by omega) (by omega)
 have w2:w64 (p+1-1)=p:=by rw[show p+1-1=p by omega];exact aZ (by omega) (by omega)
 have n1:¬n<1:=by omega
 have n2:(n !=0)=true:=by rw[bne_iff_ne];omega
 simp only[ad,ad.d1,apL,jC,jD,C.I_i,C.L_l,w1,w2,n1,n2,decide_false,ja,jR]
 by_cases hz:bs.length=0
 ·refine ⟨0,by omega,?_⟩
  simp[hz]
 have hz1:(((bs.length:Nat):Int)==0)=false:=by rw[beq_eq_false_iff_ne];omega
 have hz2:(((bs.length:Nat):Int) !=0)=true:=by rw[bne_iff_ne];omega
 have key:∀z:Int,0≤z→∃k:Nat,(k:Int)<n∧z.tmod n=(k:Int):=fun z hz=>by
  have h1:0≤z.tmod n:=Int.tmod_nonneg _ hz
  have h2:z.tmod n<n:=Int.tmod_lt_of_pos _ (by omega)
  exact ⟨(z.tmod n).toNat,by omega,by omega⟩
 by_cases hp:p<(bs.length:Int)
 ·obtain ⟨g0,g1⟩:=hb.get p.toNat
  have w3:w64 ((bs.getD p.toNat []).getD 0 .nil).I=((bs.getD p.toNat []).getD 0 .nil).I:=aZ (by omega) (by omega)
  obtain ⟨k,k1,k2⟩:=key _ g0
  refine ⟨k,k1,?_⟩
  simp only[hz1,hp,h0,decide_true,jR,jS,w3,k2,jV]
 ·have w4:w64 (p*7)=p*7:=aZ (by omega) (by omega)
  have w5:w64 (p*7+3)=p*7+3:=aZ (by omega) (by omega)
  have m1:0≤p.tmod bs.length∧p.tmod bs.length<bs.length:=⟨Int.tmod_nonneg _ h0,Int.tmod_lt_of_pos _ (by omega)⟩
  have m2:0≤(p*7+3).tmod bs.length∧(p*7+3).tmod bs.length<bs.length:=⟨Int.tmod_nonneg _ (by omega),Int.tmod_lt_of_pos _ (by omega)⟩
  simp only[hz1,hz2,hp,w4,w5,m1.1,m1.2,m2.1,m2.2,decide_true,decide_false,jR,jS]
  obtain ⟨a0,a1⟩:=hb.get (p.tmod bs.length).toNat
  obtain ⟨b0,b1⟩:=hb.get ((p*7+3).tmod bs.length).toNat
  generalize ((bs.getD (p.tmod bs.length).toNat []).getD 0 .nil).I=a at*
  generalize ((bs.getD ((p*7+3).tmod bs.length).toNat []).getD 0 .nil).I=b at*
  have d1:0≤p.tdiv bs.length∧p.tdiv bs.length≤p:=⟨Int.tdiv_nonneg h0 (by omega),Int.tdiv_le_self _ h0⟩
  generalize p.tdiv bs.length=q at*
  have v1:w64 a=a:=aZ (by omega) (by omega)
  have v2:w64 b=b:=aZ (by omega) (by omega)
  have v3:w64 (a*131)=a*131:=aZ (by omega) (by omega)
  have v4:w64 (b*1117)=b*1117:=aZ (by omega) (by omega)
  have v5:w64 (a*131+b*1117)=a*131+b*1117:=aZ (by omega) (by omega)
  have v6:w64 (p*29)=p*29:=aZ (by omega) (by omega)
  have v7:w64 (a*131+b*1117+p*29)=a*131+b*1117+p*29:=aZ (by omega) (by omega)
  have v8:w64 q=q:=aZ (by omega) (by omega)
  have v9:w64 (q*53)=q*53:=aZ (by omega) (by omega)
  have v10:w64 (a*131+b*1117+p*29+q*53)=a*131+b*1117+p*29+q*53:=aZ (by omega) (by omega)
  have hx:0≤a*131+b*1117+p*29+q*53∧a*131+b*1117+p*29+q*53<1152921504606846976:=by omega
  simp only[v1,v2,v3,v4,v5,v6,v7,v8,v9,v10]
  generalize a*131+b*1117+p*29+q*53=x at*
  have e1:0≤x.tdiv 64∧x.tdiv 64≤x:=⟨Int.tdiv_nonneg hx.1 (by omega),Int.tdiv_le_self _ hx.1⟩
  have v11:w64 (x.tdiv 64)=x.tdiv 64:=aZ (by omega) (by omega)
  have:=GS hx (y:=x.tdiv 64) (by omega)
  simp only[v11] at*
  obtain ⟨k,k1,k2⟩:=key _ this.1
  exact ⟨k,k1,by simp only[k2,jV]⟩
theorem IU {bs:List (List C)} {p n:Int} (h0:0≤p) (h1:p≤1125899906842624) (hn:n<1):ad [.i n,.l bs,.i p]=some [.i 0,.l bs,.i (p+1)]:=by
 have w1:w64 (p+1)=p+1:=aZ (by omega) (by omega)
 simp only[ad,ad.d1,apL,jC,jD,C.I_i,C.L_l,w1,hn,decide_true,jZ,jS,jV]
end Go.Ev
namespace Go.Ev
theorem vY (G:List C→Option (List C)) (k:Int) (b:Nat) (s:Str) (x y z:C) {m:Nat} (hm:s.size≤m) (hb:m≤1048576):∃s':Str,apn 6 (bj.d1 G) [.i b,.s s,.i k,x,y,z]=some (.ret [.s s'])∧s'.size≤m+2:=by
 have e0:∃j:Int,lA [.i k]=some [.i j]:=by
  simp only[lA,lA.d1,apL,jC,C.I_i]
  cases k==5<;>cases k==4<;>exact ⟨_,rfl⟩
 obtain ⟨j,hj⟩:=e0
 have s1:(bs #[40]).size=1:=rfl
 have s2:(bs #[41]).size=1:=rfl
 have s3:(bs #[40]++s).size=1+s.size:=by rw[ByteArray.size_append];rfl
 have s4:((bs #[40]++s)++bs #[41]).size=1+s.size+1:=by rw[ByteArray.size_append,s3];rfl
 have c1:1+s.size≤4294967296:=by omega
 have c2:1+s.size+1≤4294967296:=by omega
 simp only[apL,jC,jD,bj.d1,hj,ae,jI,C.I_i,C.S_s,s1,s2,s3,c1,c2,decide_true,jR]
 cases decide (j<(b:Int)) with
 |true=>exact ⟨_,rfl,by rw[s4];omega⟩
 |false=>exact ⟨_,rfl,by omega⟩
theorem xk {s:Str} (h:aX s=true):s.size≤20:=by
 simp only[aX,Bool.and_eq_true,within,decide_eq_true_eq] at h
 omega
theorem pE {N K:List (List C)} (hN:N.length≤1048576) (hK:K.length≤1048576):∀(k:Nat) (t:Tr) (o:Nat) (r r':List (List C)) (b:Nat),t.depth<k→t.Wf→t.sz≤1000→N.drop o=t.flat++r→K.drop o=t.kids o++r'→
  ∃s:Str,bj.g k 0 [.l N,.l K,.i (o+t.sz-1:Nat),.i b]=some [.s s]∧s.size≤50*t.sz
 |0,t,o,r,r',b,h,_,_,_,_=>by omega
 |k+1,t,o,r,r',b,h,hok,hsz,hd,hd'=>by
  have hs:∀x,bj.g (k+1) 0 x=bj.step (bj.g k 0) x:=fun _=>rfl
  rw[hs]
  simp only[bj.step,bj.d2,apL,jC,jD,C.I_i,C.L_l,jY]
  cases t with
  |lf kd n v=>
   obtain ⟨h1,h2,_⟩:=drop_cons (show N.drop o=node kd n v 0::r from hd)
   have e:o+(Tr.lf kd n v).sz-1=o:=by simp[Tr.sz]
   have hg:N.getD o []=node kd n v 0:=by rw[List.getD_eq_getElem?_getD,List.getElem?_eq_getElem h1,h2];rfl
   have e1:((o:Int)<(N.length:Int)):=by omega
   simp only[e,hg,node,jC,jD,C.I_i,C.S_s,e1,decide_true,jR,jX]
   have hn:=xk hok.1
   rcases hok.2 with ⟨rfl,rfl⟩|⟨rfl,hv⟩
   ·obtain ⟨s',h3,h4⟩:=vY (bj.g k 0) ((1:Nat):Int) b (mkS n) (.s (mkS n)) (.s (mkS [])) (.i ((0:Nat):Int)) hn (by omega)
    refine ⟨s',?_,by simp only[Tr.sz];omega⟩
    simp only[show (((1:Nat):Int)==1)=true from rfl,jR,jJ]
    rw[h3];rfl
   ·have hv:=xk hv
    have s1:(bs #[61]).size=1:=rfl
    have s2:(mkS n++bs #[61]).size=(mkS n).size+1:=by rw[ByteArray.size_append];rfl
    have s3:((mkS n++bs #[61])++mkS v).size=(mkS n).size+1+(mkS v).size:=by rw[ByteArray.size_append,s2]
    obtain ⟨s',h3,h4⟩:=vY (bj.g k 0) ((2:Nat):Int) b ((mkS n++bs #[61])++mkS v) (.s (mkS n)) (.s (mkS v)) (.i ((0:Nat):Int)) (m:=41) (by rw[s3];omega) (by omega)
    refine ⟨s',?_,by simp only[Tr.sz];omega⟩
    have c1:(mkS n).size+1≤4294967296:=by omega
    have c2:(mkS n).size+1+(mkS v).size≤4294967296:=by omega
    simp only[show (((2:Nat):Int)==1)=false from rfl,show (((2:Nat):Int)==2)=true from rfl,jR,jS,s1,s2,c1,c2,decide_true,jJ]
    rw[h3];rfl
  |un t=>
   simp only[Tr.depth] at h
   simp only[Tr.sz] at hsz
   have hn:N.drop o=t.flat++(node 3 [] [] 1::r):=by rw[hd];simp[Tr.flat]
   have hk:K.drop o=t.kids o++([.l [[.i (o+t.sz-1:Nat)]]]::r'):=by rw[hd'];simp[Tr.kids]
   obtain ⟨s1,ih,hz⟩:=pE hN hK k t o _ _ 3 (by omega) hok (by omega) hn hk
   obtain ⟨h1,h2⟩:=iz hn
   obtain ⟨h3,h4⟩:=iz hk
   rw[t.bZ] at h1
   rw[t.cB] at h3
   have h2:N[o+t.sz]=node 3 [] [] 1:=by simp only[t.bZ] at h2;exact h2
   have h4:K[o+t.sz]=[.l [[.i (o+t.sz-1:Nat)]]]:=by simp only[t.cB] at h4;exact h4
   have e:o+(Tr.un t).sz-1=o+t.sz:=by simp[Tr.sz]
   have hg:N.getD (o+t.sz) []=node 3 [] [] 1:=by rw[List.getD_eq_getElem?_getD,List.getElem?_eq_getElem h1,h2];rfl
   have hg':K.getD (o+t.sz) []=[.l [[.i (o+t.sz-1:Nat)]]]:=by rw[List.getD_eq_getElem?_getD,List.getElem?_eq_getElem h3,h4];rfl
   have e1:(((o+t.sz:Nat):Int)<(N.length:Int)):=by omega
   have e2:(((o+t.sz:Nat):Int)<(K.length:Int)):=by omega
   have e3:(0:Int)<((([[C.i ((o+t.sz-1:Nat):Int)]]:List (List C)).length:Nat):Int):=by simp
   have z1:(bs #[33]).size=1:=rfl
   have z2:(bs #[33]++s1).size=1+s1.size:=by rw[ByteArray.size_append];rfl
   have c1:1+s1.size≤4294967296:=by omega
   have ih':bj.g k 0 [.l N,.l K,.i (o+t.sz-1:Nat),.i 3]=some [.s s1]:=ih
   obtain ⟨s',q1,q2⟩:=vY (bj.g k 0) ((3:Nat):Int) b (bs #[33]++s1) (.s (mkS [])) (.s (mkS [])) (.i ((1:Nat):Int)) (m:=50*t.sz+1) (by rw[z2];omega) (by omega)
   refine ⟨s',?_,by simp only[Tr.sz];omega⟩
   simp only[e,hg,hg',node,jC,jD,C.I_i,C.L_l,C.S_s,e1,e2,e3,decide_true,jR,jS,jX,show (((3:Nat):Int)==1)=false from rfl,show (((3:Nat):Int)==2)=false from rfl,show (((3:Nat):Int)==3)=true from rfl,ih',ae,jI,z1,c1,jJ]
   rw[q1];rfl
  |bn kd a b'=>
   simp only[Tr.depth] at h
   simp only[Tr.sz] at hsz
   have hw:(kd=4∨kd=5)∧a.Wf∧b'.Wf:=hok
   have hn:N.drop o=a.flat++(b'.flat++(node kd [] [] 2::r)):=by rw[hd];simp[Tr.flat]
   have hn2:N.drop (o+a.sz)=b'.flat++(node kd [] [] 2::r):=by rw[←List.drop_drop,hn,←a.bZ];simp
   have hk:K.drop o=a.kids o++(b'.kids (o+a.sz)++([.l [[.i (o+a.sz-1:Nat)],[.i (o+a.sz+b'.sz-1:Nat)]]]::r')):=by rw[hd'];simp[Tr.kids]
   have hk2:K.drop (o+a.sz)=b'.kids (o+a.sz)++([.l [[.i (o+a.sz-1:Nat)],[.i (o+a.sz+b'.sz-1:Nat)]]]::r'):=by
    rw[←List.drop_drop,hk,←a.cB o];simp
   obtain ⟨h1,h2⟩:=iz hn2
   obtain ⟨h3,h4⟩:=iz hk2
   rw[b'.bZ] at h1
   rw[b'.cB] at h3
   have h2:N[o+a.sz+b'.sz]=node kd [] [] 2:=by simp only[b'.bZ] at h2;exact h2
   have h4:K[o+a.sz+b'.sz]=[.l [[.i (o+a.sz-1:Nat)],[.i (o+a.sz+b'.sz-1:Nat)]]]:=by simp only[b'.cB] at h4;exact h4
   have e:o+(Tr.bn kd a b').sz-1=o+a.sz+b'.sz:=by simp only[Tr.sz];omega
   have hg:N.getD (o+a.sz+b'.sz) []=node kd [] [] 2:=by rw[List.getD_eq_getElem?_getD,List.getElem?_eq_getElem h1,h2];rfl
   have hg':K.getD (o+a.sz+b'.sz) []=[.l [[.i (o+a.sz-1:Nat)],[.i (o+a.sz+b'.sz-1:Nat)]]]:=by rw[List.getD_eq_getElem?_getD,List.getElem?_eq_getElem h3,h4];rfl
   have e1:(((o+a.sz+b'.sz:Nat):Int)<(N.length:Int)):=by omega
   have e2:(((o+a.sz+b'.sz:Nat):Int)<(K.length:Int)):=by omega
   have e3:(0:Int)<((([[C.i ((o+a.sz-1:Nat):Int)],[C.i ((o+a.sz+b'.sz-1:Nat):Int)]]:List (List C)).length:Nat):Int):=by simp
   have e4:(1:Int)<((([[C.i ((o+a.sz-1:Nat):Int)],[C.i ((o+a.sz+b'.sz-1:Nat):Int)]]:List (List C)).length:Nat):Int):=by simp
   rcases hw.1 with rfl|rfl
   ·obtain ⟨s1,iha,ha⟩:=pE hN hK k a o _ _ 2 (by omega) hw.2.1 (by omega) hn hk
    obtain ⟨s2,ihb,hb⟩:=pE hN hK k b' (o+a.sz) _ _ 3 (by omega) hw.2.2 (by omega) hn2 hk2
    have iha:bj.g k 0 [.l N,.l K,.i (o+a.sz-1:Nat),.i 2]=some [.s s1]:=iha
    have ihb:bj.g k 0 [.l N,.l K,.i (o+a.sz+b'.sz-1:Nat),.i 3]=some [.s s2]:=ihb
    have z1:(bs #[32,38,32]).size=3:=rfl
    have z2:(s1++bs #[32,38,32]).size=s1.size+3:=by rw[ByteArray.size_append];rfl
    have z3:((s1++bs #[32,38,32])++s2).size=s1.size+3+s2.size:=by rw[ByteArray.size_append,z2]
    have c1:s1.size+3≤4294967296:=by omega
    have c2:s1.size+3+s2.size≤4294967296:=by omega
    obtain ⟨s',q1,q2⟩:=vY (bj.g k 0) ((4:Nat):Int) b ((s1++bs #[32,38,32])++s2) (.s (mkS [])) (.s (mkS [])) (.i ((2:Nat):Int)) (m:=50*a.sz+50*b'.sz+3) (by rw[z3];omega) (by omega)
    refine ⟨s',?_,by simp only[Tr.sz];omega⟩
    simp only[e,hg,hg',node,jC,jD,C.I_i,C.L_l,C.S_s,e1,e2,e3,e4,decide_true,jR,jS,jX,show (((4:Nat):Int)==1)=false from rfl,show (((4:Nat):Int)==2)=false from rfl,show (((4:Nat):Int)==3)=false from rfl,show (((4:Nat):Int)==4)=true from rfl,iha,ihb,ae,jI,z1,z2,c1,c2,jJ]
    rw[q1];rfl
   ·obtain ⟨s1,iha,ha⟩:=pE hN hK k a o _ _ 1 (by omega) hw.2.1 (by omega) hn hk
    obtain ⟨s2,ihb,hb⟩:=pE hN hK k b' (o+a.sz) _ _ 2 (by omega) hw.2.2 (by omega) hn2 hk2
    have iha:bj.g k 0 [.l N,.l K,.i (o+a.sz-1:Nat),.i 1]=some [.s s1]:=iha
    have ihb:bj.g k 0 [.l N,.l K,.i (o+a.sz+b'.sz-1:Nat),.i 2]=some [.s s2]:=ihb
    have z1:(bs #[32,124,32]).size=3:=rfl
    have z2:(s1++bs #[32,124,32]).size=s1.size+3:=by rw[ByteArray.size_append];rfl
    have z3:((s1++bs #[32,124,32])++s2).size=s1.size+3+s2.size:=by rw[ByteArray.size_append,z2]
    have c1:s1.size+3≤4294967296:=by omega
    have c2:s1.size+3+s2.size≤4294967296:=by omega
    obtain ⟨s',q1,q2⟩:=vY (bj.g k 0) ((5:Nat):Int) b ((s1++bs #[32,124,32])++s2) (.s (mkS [])) (.s (mkS [])) (.i ((2:Nat):Int)) (m:=50*a.sz+50*b'.sz+3) (by rw[z3];omega) (by omega)
    refine ⟨s',?_,by simp only[Tr.sz];omega⟩
    simp only[e,hg,hg',node,jC,jD,C.I_i,C.L_l,C.S_s,e1,e2,e3,e4,decide_true,jR,jS,jX,show (((5:Nat):Int)==1)=false from rfl,show (((5:Nat):Int)==2)=false from rfl,show (((5:Nat):Int)==3)=false from rfl,show (((5:Nat):Int)==4)=false from rfl,show (((5:Nat):Int)==5)=true from rfl,iha,ihb,ae,jI,z1,z2,c1,c2,jJ]
    rw[q1];rfl
theorem FD {t:Tr} (ht:t.sz≤400) (hw:t.Wf):∃s:Str,gf [.l t.flat]=some [.s s]∧s.size≤200:=by
 have hF:=lQ
 have hp:=t.qB
 have hd:=t.lH
 have hw1:w64 ((t.flat.length:Int)-1)=((0+t.sz-1:Nat):Int):=by rw[t.bZ,aZ (by omega) (by omega)];omega
 obtain ⟨s,h1,h2⟩:=pE (N:=t.flat) (K:=t.kids 0) (by rw[t.bZ];omega) (by rw[t.cB];omega) iW t 0 [] [] 1 (by omega) hw (by omega) (by simp) (by simp)
 have h1:bj [.l t.flat,.l (t.kids 0),.i (0+t.sz-1:Nat),.i 1]=some [.s s]:=h1
 simp only[gf,gf.d1,apL,jC,jD,rV t ht (.inl hw),ae,call2,jI,C.B_b,iO t (by omega),C.L_l,hw1,h1,C.S_s]
 cases decide (t.depth≤20) with
 |false=>exact ⟨_,rfl,by decide⟩
 |true=>
  simp only[jZ,jS]
  by_cases hs:(s.size:Int)>200
  ·simp only[hs,decide_true,jR,jV];exact ⟨_,rfl,by decide⟩
  ·simp only[hs,decide_false,jS,jV];exact ⟨_,rfl,by omega⟩
end Go.Ev
namespace Go.Ev
section
variable {bs:List (List C)} (hb:BY bs) (hl:bs.length≤2000)
include hb hl
theorem FR {p:Int} (h0:0≤p) (h1:p≤1125899906842624):∃n:Tok,ll [.l bs,.i p]=some [.s (mkS n),.l bs,.i (p+1)]∧aX (mkS n)=true:=by
 obtain ⟨k,hk,e⟩:=aU hb hl h0 h1 (n:=8) (by omega) (by omega)
 have hk:k<8:=by omega
 have q:((k:Int)<8):=by omega
 simp only[ll,ll.d1,apL,jC,jD,e,call3,jI,C.I_i,jX,decide_true,jR]
 rcases k with _|_|_|_|_|_|_|_|k
 ·exact ⟨[115,115,100],rfl,by decide⟩
 ·exact ⟨[111,108,100],rfl,by decide⟩
 ·exact ⟨[103,112,117],rfl,by decide⟩
 ·exact ⟨[122,111,110,101],rfl,by decide⟩
 ·exact ⟨[99,111,108,111,114],rfl,by decide⟩
 ·exact ⟨[97],rfl,by decide⟩
 ·exact ⟨[98,45,49],rfl,by decide⟩
 ·exact ⟨[120,95,50],rfl,by decide⟩
 ·omega
theorem F4 {p:Int} (h0:0≤p) (h1:p≤1125899906842624-4):∃(t:Tr) (p':Int),jc [.l bs,.i p]=some [.l bs,.i p',.l t.flat]∧t.Wf∧t.sz=1∧p≤p'∧p'≤p+3:=by
 obtain ⟨k,hk,e⟩:=aU hb hl h0 (show p≤1125899906842624 by omega) (n:=2) (by omega) (by omega)
 simp only[jc,jc.d1,apL,jC,jD,e,call3,jI,C.I_i]
 cases hq:((k:Int)==0) with
 |true=>
  obtain ⟨n,e2,hn⟩:=FR hb hl (p:=p+1) (by omega) (by omega)
  simp only[jR,e2,jI,jC,jD,jV]
  exact ⟨.lf 1 n [],p+1+1,rfl,⟨hn,.inl ⟨rfl,rfl⟩⟩,rfl,by omega,by omega⟩
 |false=>
  obtain ⟨i,hi,e2⟩:=aU hb hl (p:=p+1) (n:=3) (by omega) (by omega) (by omega) (by omega)
  obtain ⟨j,hj,e3⟩:=aU hb hl (p:=p+1+1) (n:=4) (by omega) (by omega) (by omega) (by omega)
  simp only[jS,e2,e3,jI,jC,jD,C.I_i,jX,decide_true,jR]
  have hv:∃v:Tok,((rows [[C.s (Go.Ev.bs #[101,97,115,116])],[C.s (Go.Ev.bs #[119,101,115,116])],[C.s (Go.Ev.bs #[114,101,100])],[C.s (Go.Ev.bs #[97])]]).getD (j:Int).toNat []).getD 0 .nil=.s (mkS v)∧aX (mkS v)=true:=by
   rcases j with _|_|_|_|j
   ·exact ⟨[101,97,115,116],rfl,by decide⟩
   ·exact ⟨[119,101,115,116],rfl,by decide⟩
   ·exact ⟨[114,101,100],rfl,by decide⟩
   ·exact ⟨[97],rfl,by decide⟩
   ·omega
  have hn:∃v:Tok,((rows [[C.s (Go.Ev.bs #[122,111,110,101])],[C.s (Go.Ev.bs #[99,111,108,111,114])],[C.s (Go.Ev.bs #[115,115,100])]]).getD (i:Int).toNat []).getD 0 .nil=.s (mkS v)∧aX (mkS v)=true:=by
   rcases i with _|_|_|i
   ·exact ⟨[122,111,110,101],rfl,by decide⟩
   ·exact ⟨[99,111,108,111,114],rfl,by decide⟩
   ·exact ⟨[115,115,100],rfl,by decide⟩
   ·omega
  obtain ⟨v,v1,v2⟩:=hv
  obtain ⟨n,n1,n2⟩:=hn
  rw[v1,n1]
  have q1:decide ((i:Int)<((rows [[C.s (Go.Ev.bs #[122,111,110,101])],[C.s (Go.Ev.bs #[99,111,108,111,114])],[C.s (Go.Ev.bs #[115,115,100])]]).length:Int))=true:=by
   show decide ((i:Int)<3)=true
   simp;omega
  have q2:decide ((j:Int)<((rows [[C.s (Go.Ev.bs #[101,97,115,116])],[C.s (Go.Ev.bs #[119,101,115,116])],[C.s (Go.Ev.bs #[114,101,100])],[C.s (Go.Ev.bs #[97])]]).length:Int))=true:=by
   show decide ((j:Int)<4)=true
   simp;omega
  rw[q1,q2]
  exact ⟨.lf 2 n v,p+1+1+1,rfl,⟨n2,.inr ⟨rfl,v2⟩⟩,rfl,by omega,by omega⟩
theorem zb:∀(k d:Nat) (p:Int),d<k→d≤6→0≤p→p+(8*2^d:Nat)≤1125899906842624-10→∃(t:Tr) (p':Int),dK.g k 0 [.i d,.l bs,.i p]=some [.l bs,.i p',.l t.flat]∧t.Wf∧t.sz+1≤2^(d+1)∧p≤p'∧p'≤p+(8*2^d-2:Nat)
 |0,d,p,h,_,_,_=>by omega
 |k+1,d,p,h,h6,h0,h1=>by
  have hs:∀x,dK.g (k+1) 0 x=dK.step (dK.g k 0) x:=fun _=>rfl
  rw[hs]
  have hpow:2^d≤64∧1≤2^d:=by
   have:=Nat.pow_le_pow_right (show 0<2 by decide) h6
   exact ⟨by simpa using this,Nat.one_le_two_pow⟩
  simp only[dK.step,dK.d1,apL,jC,jD,C.I_i]
  have leaf:∀q:Int,p≤q→q≤p+1→∃(t:Tr) (p':Int),bl (call3 (jc [.l bs,.i q]) fun g h i=>some (.ret [g,h,.l i.L]))=some [.l bs,.i p',.l t.flat]∧t.Wf∧t.sz+1≤2^(d+1)∧p≤p'∧p'≤p+(8*2^d-2:Nat):=fun q q0 q1=>by
   obtain ⟨t,p',e,a1,a2,a3,a4⟩:=F4 hb hl (p:=q) (by omega) (by omega)
   refine ⟨t,p',by simp only[e,call3,jI,jC,jD,C.L_l,jV],a1,?_,by omega,by omega⟩
   rw[a2,Nat.pow_succ];omega
  cases hd:decide ((d:Int)≤0) with
  |true=>simp only[jZ,jS];exact leaf p (by omega) (by omega)
  |false=>
   have hd:¬((d:Int)≤0):=by simpa using hd
   obtain ⟨i,hi,e⟩:=aU hb hl h0 (show p≤1125899906842624 by omega) (n:=3) (by omega) (by omega)
   simp only[ja,jR,e,call3,jI,jC,jD,C.I_i]
   cases hq:((i:Int)==0) with
   |true=>simp only[jR];exact leaf (p+1) (by omega) (by omega)
   |false=>
    obtain ⟨j,hj,e2⟩:=aU hb hl (p:=p+1) (n:=3) (by omega) (by omega) (by omega) (by omega)
    obtain ⟨d',rfl⟩:∃d',d=d'+1:=⟨d-1,by omega⟩
    have hw:w64 (((d'+1:Nat):Int)-1)=(d':Int):=by rw[aZ (by omega) (by omega)];omega
    have hp2:2^(d'+1)=2*2^d':=by rw[Nat.pow_succ];omega
    have hp3:2^(d'+1+1)=4*2^d':=by rw[Nat.pow_succ,hp2];omega
    obtain ⟨t1,p1,g1,a1,a2,a3,a4⟩:=zb k d' (p+1+1) (by omega) (by omega) (by omega) (by omega)
    have hpd:1≤2^d':=Nat.one_le_two_pow
    obtain ⟨t2,p2,g2,b1,b2,b3,b4⟩:=zb k d' p1 (by omega) (by omega) (by omega) (by omega)
    have l1:=t1.bZ
    have l2:=t2.bZ
    have o1:=BV 3 1 t1.flat (by omega)
    have o2:=yl 4 2 t1.flat t2.flat (by omega)
    have o3:=yl 5 2 t1.flat t2.flat (by omega)
    simp only[jS,e2,jI,jC,jD,C.I_i,hw,g1,C.L_l]
    cases hj0:((j:Int)==0) with
    |true=>
     simp only[jR,o1,call2,jI,jC,jD,C.L_l,jV]
     exact ⟨.un t1,p1,rfl,a1,by simp only[Tr.sz];omega,by omega,by omega⟩
    |false=>
     simp only[jS,g2,jI,jC,jD,C.L_l]
     cases hj1:((j:Int)==1) with
     |true=>
      simp only[jR,o2,call2,jI,jC,jD,C.L_l,jV]
      exact ⟨.bn 4 t1 t2,p2,rfl,⟨.inl rfl,a1,b1⟩,by simp only[Tr.sz];omega,by omega,by omega⟩
     |false=>
      simp only[jS,o3,call2,jI,jC,jD,C.L_l,jV]
      exact ⟨.bn 5 t1 t2,p2,rfl,⟨.inr rfl,a1,b1⟩,by simp only[Tr.sz];omega,by omega,by omega⟩
theorem AZ {p:Int} (h0:0≤p) (h1:p≤1125899906842624-2000):∃(s:Str) (p':Int),dB [.l bs,.i p]=some [.s s,.l bs,.i p']∧s.size≤200∧p≤p'∧p'≤p+40:=by
 obtain ⟨k,hk,e⟩:=aU hb hl h0 (show p≤1125899906842624 by omega) (n:=2) (by omega) (by omega)
 simp only[dB,dB.d1,apL,jC,jD,e,call3,jI,C.I_i]
 cases hq:((k:Int)==0) with
 |true=>simp only[jR,jV];exact ⟨_,_,rfl,by decide,by omega,by omega⟩
 |false=>
  obtain ⟨i,hi,e2⟩:=aU hb hl (p:=p+1) (n:=3) (by omega) (by omega) (by omega) (by omega)
  simp only[jS,e2,jI,jC,jD,C.I_i]
  cases hq2:((i:Int)==0) with
  |true=>
   obtain ⟨j,hj,e3⟩:=aU hb hl (p:=p+1+1) (n:=6) (by omega) (by omega) (by omega) (by omega)
   simp only[jR,e3,jI,jC,jD,C.I_i,jX,decide_true]
   rcases j with _|_|_|_|_|_|j
   ·exact ⟨_,_,rfl,by decide,by omega,by omega⟩
   ·exact ⟨_,_,rfl,by decide,by omega,by omega⟩
   ·exact ⟨_,_,rfl,by decide,by omega,by omega⟩
   ·exact ⟨_,_,rfl,by decide,by omega,by omega⟩
   ·exact ⟨_,_,rfl,by decide,by omega,by omega⟩
   ·exact ⟨_,_,rfl,by decide,by omega,by omega⟩
   ·omega
  |false=>
   have hF:=lQ
   obtain ⟨t,p',g,a1,a2,a3,a4⟩:=zb hb hl iW 2 (p+1+1) (by omega) (by omega) (by omega) (by omega)
   have g:dK [.i 2,.l bs,.i (p+1+1)]=some [.l bs,.i p',.l t.flat]:=g
   obtain ⟨s,s1,s2⟩:=FD (t:=t) (by omega) a1
   simp only[jS,g,s1,ae,jI,jC,jD,C.L_l,jV]
   exact ⟨s,p',rfl,s2,by omega,by omega⟩
end
theorem EO:∀(k n:Nat),n<k→n≤1000→∃s:Str,cw.g k 0 [.i n]=some [.s s]∧s.size≤n+1
 |0,n,h,_=>by omega
 |k+1,n,h,hn=>by
  have hs:∀x,cw.g (k+1) 0 x=cw.step (cw.g k 0) x:=fun _=>rfl
  rw[hs]
  have n0:¬((n:Int)<0):=by omega
  simp only[cw.step,cw.d1,apL,jC,C.I_i,n0,decide_false,jS]
  have mb:∀x:C,(ke (rows [[x]])).size=1:=fun _=>rfl
  by_cases h10:(n:Int)<10
  ·simp only[h10,decide_true,jR,jV]
   exact ⟨_,rfl,by rw[mb];omega⟩
  ·have e:(n:Int).tdiv 10=((n/10:Nat):Int):=by rw[Int.tdiv_eq_ediv_of_nonneg (by omega)];omega
   have w:w64 ((n:Int).tdiv 10)=((n/10:Nat):Int):=by rw[e,aZ (by omega) (by omega)]
   obtain ⟨s,g,hz⟩:=EO k (n/10) (by omega) (by omega)
   have c1:s.size+1≤4294967296:=by omega
   simp only[h10,decide_false,jS,w,g,ae,jI,jC,C.S_s,mb,c1,decide_true,jR,jV]
   exact ⟨_,rfl,by rw[ByteArray.size_append,mb];omega⟩
theorem vG {n:Nat} (hn:n≤1000):∃s:Str,cw [.i n]=some [.s s]∧s.size≤n+1:=EO iW n (by have:=lQ;omega) hn
end Go.Ev
namespace Go.Ev
def S20 (ms:List Str):Prop:=∀m,m∈ms→m.size≤20
theorem S20.Gh {ms:List Str} (h:S20 ms) {x:Str} (hx:x.size≤20):S20 (ms++[x]):=fun m hm=>by
 rcases List.mem_append.1 hm with hm|hm
 ·exact h m hm
 ·rw[List.mem_singleton.1 hm];exact hx
theorem uk (ms:List Str) (x:Str):ms.map sE++[[C.s x]]=(ms++[x]).map sE:=by simp[sE]
section
variable {bs:List (List C)} (hb:BY bs) (hl:bs.length≤2000)
include hb hl
theorem Gr {ms:List Str} (h:S20 ms) (hm:ms.length≤10) {p:Int} (h0:0≤p) (h1:p≤1125899906842624-10):
  ∃(ms':List Str) (p':Int),apn 3 cD.d1 [.l bs,.i p,.l (ms.map sE)]=some (.ret [.l bs,.i p',.l (ms'.map sE)])∧S20 ms'∧ms'.length≤ms.length+1∧p≤p'∧p'≤p+2:=by
 obtain ⟨k,hk,e⟩:=aU hb hl h0 (show p≤1125899906842624 by omega) (n:=2) (by omega) (by omega)
 simp only[cD.d1,apL,jC,jD,e,call3,jI,C.I_i,C.L_l,jW]
 cases hq:((k:Int)==0) with
 |false=>simp only[jS];exact ⟨ms,p+1,rfl,h,by omega,by omega,by omega⟩
 |true=>
  obtain ⟨j,hj,e2⟩:=aU hb hl (p:=p+1) (n:=2) (by omega) (by omega) (by omega) (by omega)
  simp only[jR,e2,jI,jC,jD,C.I_i,jX,decide_true]
  have c1:ms.length+1≤4294967296:=by omega
  rcases j with _|_|j
  ·refine ⟨ms++[Go.Ev.bs #[115,115,100]],p+1+1,?_,h.Gh (by decide),by simp,by omega,by omega⟩
   rw[←uk]
   simp[rows,c1]
  ·refine ⟨ms++[Go.Ev.bs #[115,115,100,61,97]],p+1+1,?_,h.Gh (by decide),by simp,by omega,by omega⟩
   rw[←uk]
   simp[rows,c1]
  ·omega
theorem GA {ms:List Str} (h:S20 ms) (hm:ms.length≤9) {p:Int} (h0:0≤p) (h1:p≤1125899906842624-20):
  ∃(ms':List Str) (p':Int),apn 3 cD.d2 [.l bs,.i p,.l (ms.map sE)]=some (.ret [.l bs,.i p',.l (ms'.map sE)])∧S20 ms'∧ms'.length≤ms.length+2∧p≤p'∧p'≤p+3:=by
 obtain ⟨k,hk,e⟩:=aU hb hl h0 (show p≤1125899906842624 by omega) (n:=3) (by omega) (by omega)
 have c1:ms.length+1≤4294967296:=by omega
 simp only[cD.d2,apL,jC,jD,e,call3,jI,C.I_i,C.L_l,jW,rows,List.length_cons,List.length_nil,Nat.zero_add,c1,decide_true,jR]
 cases hq:((k:Int)==0) with
 |false=>
  obtain ⟨ms',p',g,a1,a2,a3,a4⟩:=Gr hb hl h (by omega) (p:=p+1) (by omega) (by omega)
  simp only[jS,jJ]
  exact ⟨ms',p',g,a1,by omega,by omega,by omega⟩
 |true=>
  obtain ⟨ms',p',g,a1,a2,a3,a4⟩:=Gr hb hl (ms:=ms++[Go.Ev.bs #[111,108,100]]) (h.Gh (by decide)) (by simp;omega) (p:=p+1) (by omega) (by omega)
  simp only[jR,jJ,uk]
  simp only[List.length_append,List.length_cons,List.length_nil] at a2
  exact ⟨ms',p',g,a1,by omega,by omega,by omega⟩
theorem Et {ms:List Str} (h:S20 ms) (hm:ms.length≤8) {p:Int} (h0:0≤p) (h1:p≤1125899906842624-30):
  ∃(ms':List Str) (p':Int),apn 3 cD.d3 [.l bs,.i p,.l (ms.map sE)]=some (.ret [.l bs,.i p',.l (ms'.map sE)])∧S20 ms'∧ms'.length≤ms.length+3∧p≤p'∧p'≤p+4:=by
 obtain ⟨k,hk,e⟩:=aU hb hl h0 (show p≤1125899906842624 by omega) (n:=3) (by omega) (by omega)
 have c1:ms.length+1≤4294967296:=by omega
 simp only[cD.d3,apL,jC,jD,e,call3,jI,C.I_i,C.L_l,jW,rows,List.length_cons,List.length_nil,Nat.zero_add,c1,decide_true,jR]
 cases hq:((k:Int)==0) with
 |false=>
  obtain ⟨ms',p',g,a1,a2,a3,a4⟩:=GA hb hl h (by omega) (p:=p+1) (by omega) (by omega)
  simp only[jS,jJ]
  exact ⟨ms',p',g,a1,by omega,by omega,by omega⟩
 |true=>
  obtain ⟨ms',p',g,a1,a2,a3,a4⟩:=GA hb hl (ms:=ms++[Go.Ev.bs #[103,112,117]]) (h.Gh (by decide)) (by simp;omega) (p:=p+1) (by omega) (by omega)
  simp only[jR,jJ,uk]
  simp only[List.length_append,List.length_cons,List.length_nil] at a2
  exact ⟨ms',p',g,a1,by omega,by omega,by omega⟩
theorem DU {p:Int} (h0:0≤p) (h1:p≤1125899906842624-40):
  ∃(ms:List Str) (p':Int),cD [.l bs,.i p]=some [.l bs,.i p',.l (ms.map sE)]∧S20 ms∧ms.length≤10∧p≤p'∧p'≤p+6:=by
 obtain ⟨k,hk,e⟩:=aU hb hl h0 (show p≤1125899906842624 by omega) (n:=2) (by omega) (by omega)
 simp only[cD,cD.d4,apL,jC,jD,e,call3,jI,C.I_i]
 cases hq:((k:Int)==0) with
 |false=>
  obtain ⟨ms',p',g,a1,a2,a3,a4⟩:=Et hb hl (ms:=[]) (fun _ h=>by simp at h) (by simp) (p:=p+1) (by omega) (by omega)
  have g:apn 3 cD.d3 [.l bs,.i (p+1),.l ah]=_:=g
  simp only[jS,jJ,g,jV]
  simp only[List.length_nil] at a2
  exact ⟨ms',p',rfl,a1,by omega,by omega,by omega⟩
 |true=>
  obtain ⟨j,hj,e2⟩:=aU hb hl (p:=p+1) (n:=2) (by omega) (by omega) (by omega) (by omega)
  simp only[jR,e2,jI,jC,jD,C.I_i,jX,decide_true]
  rcases j with _|_|j
  ·obtain ⟨ms',p',g,a1,a2,a3,a4⟩:=Et hb hl (ms:=[Go.Ev.bs #[99,111,108,111,114,61]++Go.Ev.bs #[114,101,100]]) (fun m h=>by rw[List.mem_singleton.1 h];decide) (by simp) (p:=p+1+1) (by omega) (by omega)
   simp only[List.map_cons,List.map_nil,sE,List.length_cons,List.length_nil] at g a2
   have g':bl (apn 3 cD.d3 [.l bs,.i (p+1+1),.l [[.s (Go.Ev.bs #[99,111,108,111,114,61]++Go.Ev.bs #[114,101,100])]]])=some [.l bs,.i p',.l (ms'.map sE)]:=by rw[g];rfl
   exact ⟨ms',p',g',a1,by omega,by omega,by omega⟩
  ·obtain ⟨ms',p',g,a1,a2,a3,a4⟩:=Et hb hl (ms:=[Go.Ev.bs #[99,111,108,111,114,61]++Go.Ev.bs #[97]]) (fun m h=>by rw[List.mem_singleton.1 h];decide) (by simp) (p:=p+1+1) (by omega) (by omega)
   simp only[List.map_cons,List.map_nil,sE,List.length_cons,List.length_nil] at g a2
   have g':bl (apn 3 cD.d3 [.l bs,.i (p+1+1),.l [[.s (Go.Ev.bs #[99,111,108,111,114,61]++Go.Ev.bs #[97])]]])=some [.l bs,.i p',.l (ms'.map sE)]:=by rw[g];rfl
   exact ⟨ms',p',g',a1,by omega,by omega,by omega⟩
  ·omega
theorem zw {nm:Str} (hn:nm.size≤100) {p:Int} (h0:0≤p) (h1:p≤1125899906842624-100):
  ∃(b:Bt) (p':Int),eQ [.s nm,.l bs,.i p]=some [.s b.name,.s b.zone,.i b.room,.i b.hold,.b b.shut,.l bs,.i p',.l (b.marks.map sE)]∧b.name=nm∧b.Sz 1000∧p≤p'∧p'≤p+10:=by
 obtain ⟨k,hk,e⟩:=aU hb hl h0 (show p≤1125899906842624 by omega) (n:=3) (by omega) (by omega)
 obtain ⟨ms,p1,g,a1,a2,a3,a4⟩:=DU hb hl (p:=p+1) (by omega) (by omega)
 obtain ⟨r,hr,e2⟩:=aU hb hl (p:=p1) (n:=20) (by omega) (by omega) (by omega) (by omega)
 obtain ⟨h,hh,e3⟩:=aU hb hl (p:=p1+1) (n:=20) (by omega) (by omega) (by omega) (by omega)
 obtain ⟨s,hs,e4⟩:=aU hb hl (p:=p1+1+1) (n:=10) (by omega) (by omega) (by omega) (by omega)
 simp only[eQ,eQ.d1,apL,jC,jD,e,g,e2,e3,e4,call3,jI,C.I_i,C.L_l,jX,decide_true,jR]
 have key:∀z:Str,z.size≤20→∃(b:Bt) (p':Int),some [C.s nm,C.s z,C.i (w64 (4+(r:Int))),C.i (w64 (4+(h:Int))),C.b ((s:Int)==0),C.l bs,C.i (p1+1+1+1),C.l (ms.map sE)]=some [.s b.name,.s b.zone,.i b.room,.i b.hold,.b b.shut,.l bs,.i p',.l (b.marks.map sE)]∧b.name=nm∧b.Sz 1000∧p≤p'∧p'≤p+10:=fun z hz=>
  ⟨⟨nm,z,ms,_,_,_⟩,p1+1+1+1,rfl,rfl,⟨by show nm.size≤1000;omega,by show z.size≤1000;omega,by show ms.length≤1000;omega,fun m hm=>Nat.le_trans (a1 m hm) (by decide)⟩,by omega,by omega⟩
 rcases k with _|_|_|k
 ·exact key _ (show (Go.Ev.bs #[101,97,115,116]).size≤20 by decide)
 ·exact key _ (show (Go.Ev.bs #[119,101,115,116]).size≤20 by decide)
 ·exact key _ (show (Go.Ev.bs #[110,111,114,116,104]).size≤20 by decide)
 ·omega
theorem qj (a e f g h i j k l m n o q r s t u v w x y z a0:C):∀(c:Nat) (b p:Int) (L:List Lk),b≤c→-10≤b→c≤10→0≤p→p≤1125899906842624-10000+(0-100)*c→L.length+c≤20→(∀x,x∈L→x.sel.size≤200)→
  ∃(L':List Lk) (p':Int),lim (apn 28 bW.d1) [a,.i b,.l bs,.i p,e,f,g,h,i,j,k,l,m,n,o,q,r,s,t,u,v,w,x,y,z,a0,.l [],.l (L.map Lk.e)]=some (.brk 0 [a,.l bs,.i p',e,f,g,h,i,j,k,l,m,n,o,q,r,s,t,u,v,w,x,y,z,a0,.l [],.l (L'.map Lk.e)])∧L'.length≤20∧(∀x,x∈L'→x.sel.size≤200)∧p≤p'∧p'≤p+50*c
 |c,b,p,L,hbc,hb0,hc,h0,h1,hL,hz=>by
  by_cases hpos:b>0
  ·obtain ⟨c',rfl⟩:∃c',c=c'+1:=⟨c-1,by omega⟩
   obtain ⟨sl,p1,g1,a1,a2,a3⟩:=AZ hb hl (p:=p) h0 (by omega)
   obtain ⟨wt,hw,g2⟩:=aU hb hl (p:=p1) (n:=19) (by omega) (by omega) (by omega) (by omega)
   have ww:w64 (b-1)=b-1:=aZ (by omega) (by omega)
   have c1:L.length+1≤4294967296:=by omega
   have hstep:apn 28 bW.d1 [a,.i b,.l bs,.i p,e,f,g,h,i,j,k,l,m,n,o,q,r,s,t,u,v,w,x,y,z,a0,.l [],.l (L.map Lk.e)]=some (.again [a,.i (b-1),.l bs,.i (p1+1),e,f,g,h,i,j,k,l,m,n,o,q,r,s,t,u,v,w,x,y,z,a0,.l [],.l ((L++[Lk.mk sl (w64 ((wt:Int)-9))]).map Lk.e)]):=by
    simp only[apL,jC,jD,bW.d1,C.I_i,hpos,decide_true,jR,g1,g2,call3,jI,C.L_l,jW,rows,List.length_cons,List.length_nil,Nat.zero_add,c1,ww,List.map_append,List.map_cons,List.map_nil,Lk.e]
   rw[aO hstep]
   obtain ⟨L',p',q1,q2,q3,q4,q5⟩:=qj a e f g h i j k l m n o q r s t u v w x y z a0 c' (b-1) (p1+1) (L++[Lk.mk sl (w64 ((wt:Int)-9))]) (by omega) (by omega) (by omega) (by omega) (by omega) (by simp;omega) (fun y hy=>by
    rcases List.mem_append.1 hy with hy|hy
    ·exact hz y hy
    ·rw[List.mem_singleton.1 hy];exact a1)
   exact ⟨L',p',q1,q2,q3,by omega,by omega⟩
  ·refine ⟨L,p,aY ?_,by omega,hz,by omega,by omega⟩
   simp only[apL,jC,jD,bW.d1,C.I_i,hpos,decide_false,jS,C.L_l]
end
end Go.Ev
namespace Go.Ev
section
variable {bs:List (List C)} (hb:BY bs) (hl:bs.length≤2000)
include hb hl
theorem FC {nm sv sel:Str} {rk bn rm hd:Int} {L:List Lk} (d e f g h i j k l m n z:C) (z1:nm.size≤1000) (z2:sv.size≤1000) (z3:sel.size≤1000) (z4:L.length≤20) (z5:∀x,x∈L→x.sel.size≤200) {p:Int} (h0:0≤p) (h1:p≤1125899906842624-100):
  ∃(c:Cp) (p':Int),apn 27 bW.d2 [.s sv,.l bs,.i p,d,e,f,g,h,i,j,k,l,m,n,.s nm,.s sv,.i rk,.i bn,.i rm,.i hd,.s sel,.i 0,.s (Go.Ev.bs #[]),.s (Go.Ev.bs #[]),.s (Go.Ev.bs #[]),z,.l (L.map Lk.e)]=some (.ret (c.e++[.l bs,.i p']))∧c.Sz 1000∧p≤p'∧p'≤p+10:=by
 obtain ⟨x,hx,g1⟩:=aU hb hl h0 (show p≤1125899906842624 by omega) (n:=8) (by omega) (by omega)
 have key:∀(ap:Int) (nr fx:Str) (p':Int),nr.size≤1000→fx.size≤1000→p≤p'→p'≤p+10→∃(c:Cp) (q:Int),some (Out.ret [C.s nm,.s sv,.i rk,.i bn,.i rm,.i hd,.s sel,.l (L.map Lk.e),.i ap,.s nr,.s fx,.s (Go.Ev.bs #[]),.l bs,.i p'])=some (.ret (c.e++[.l bs,.i q]))∧c.Sz 1000∧p≤q∧q≤p+10:=fun ap nr fx p' hn hf q1 q2=>
  ⟨⟨nm,sv,rk,bn,rm,hd,sel,L,ap,nr,fx,Go.Ev.bs #[]⟩,p',rfl,⟨z1,z2,z3,hn,hf,by show (Go.Ev.bs #[]).size≤1000;decide,by show L.length≤1000;omega,fun x hx=>Nat.le_trans (z5 x hx) (by decide)⟩,q1,q2⟩
 have e0:(Go.Ev.bs #[]).size≤1000:=by decide
 simp only[apL,jC,jD,bW.d2,g1,call3,jI,C.I_i,C.L_l]
 cases q0:((x:Int)==0) with
 |true=>simp only[jR];exact key 1 _ _ _ e0 e0 (by omega) (by omega)
 |false=>
  cases q1:((x:Int)==1) with
  |true=>simp only[jR,jS];exact key 2 _ _ _ e0 e0 (by omega) (by omega)
  |false=>
   cases q2:((x:Int)==2) with
   |true=>
    obtain ⟨y,hy,g2⟩:=aU hb hl (p:=p+1) (n:=4) (by omega) (by omega) (by omega) (by omega)
    simp only[jR,jS,g2,jI,jC,jD,C.I_i,jX,decide_true]
    rcases y with _|_|_|_|y
    ·exact key 0 (Go.Ev.bs #[119,101,98]) _ _ (by decide) e0 (by omega) (by omega)
    ·exact key 0 (Go.Ev.bs #[100,98]) _ _ (by decide) e0 (by omega) (by omega)
    ·exact key 0 (Go.Ev.bs #[103,111,110,101]) _ _ (by decide) e0 (by omega) (by omega)
    ·exact key 0 sv _ _ z2 e0 (by omega) (by omega)
    ·omega
   |false=>
    cases q3:((x:Int)==3) with
    |true=>
     obtain ⟨y,hy,g2⟩:=aU hb hl (p:=p+1) (n:=3) (by omega) (by omega) (by omega) (by omega)
     simp only[jR,jS,g2,jI,jC,jD,C.I_i]
     cases q4:((y:Int)==0) with
     |true=>
      obtain ⟨w,hw,g3⟩:=aU hb hl (p:=p+1+1) (n:=4) (by omega) (by omega) (by omega) (by omega)
      obtain ⟨s,g4,hs⟩:=vG (n:=w) (by omega)
      have b1:(Go.Ev.bs #[98]).size=1:=rfl
      have c1:1+s.size≤4294967296:=by omega
      simp only[jR,g3,g4,ae,jI,jC,jD,C.S_s,b1,c1,decide_true]
      exact key 0 _ _ _ e0 (by rw[ByteArray.size_append,b1];omega) (by omega) (by omega)
     |false=>simp only[jS];exact key 0 _ _ _ e0 e0 (by omega) (by omega)
    |false=>simp only[jS];exact key 0 _ _ _ e0 e0 (by omega) (by omega)
theorem Ge {n:Nat} (hn:n≤900) {p:Int} (h0:0≤p) (h1:p≤1125899906842624-20000):∃(c:Cp) (p':Int),bW [.i n,.l bs,.i p]=some (c.e++[.l bs,.i p'])∧c.Sz 1000∧p≤p'∧p'≤p+1000:=by
 obtain ⟨x1,k1,g1⟩:=aU hb hl h0 (show p≤1125899906842624 by omega) (n:=4) (by omega) (by omega)
 obtain ⟨s,g2,hs⟩:=vG (n:=n) (by omega)
 obtain ⟨x3,k3,g3⟩:=aU hb hl (p:=p+1) (n:=6) (by omega) (by omega) (by omega) (by omega)
 obtain ⟨x4,k4,g4⟩:=aU hb hl (p:=p+1+1) (n:=30) (by omega) (by omega) (by omega) (by omega)
 obtain ⟨x5,k5,g5⟩:=aU hb hl (p:=p+1+1+1) (n:=7) (by omega) (by omega) (by omega) (by omega)
 obtain ⟨x6,k6,g6⟩:=aU hb hl (p:=p+1+1+1+1) (n:=8) (by omega) (by omega) (by omega) (by omega)
 obtain ⟨sel,p1,g7,a1,a2,a3⟩:=AZ hb hl (p:=p+1+1+1+1+1) (by omega) (by omega)
 obtain ⟨x8,k8,g8⟩:=aU hb hl (p:=p1) (n:=5) (by omega) (by omega) (by omega) (by omega)
 have w1:w64 ((x8:Int)-2)=(x8:Int)-2:=aZ (by omega) (by omega)
 have hsv:∃sv:Str,((rows [[C.s (Go.Ev.bs #[119,101,98])],[C.s (Go.Ev.bs #[100,98])],[C.s (Go.Ev.bs #[106,111,98])],[C.s (Go.Ev.bs #[99,97,99,104,101])]]).getD (x1:Int).toNat []).getD 0 .nil=.s sv∧sv.size≤10:=by
  rcases x1 with _|_|_|_|x1
  ·exact ⟨_,rfl,by decide⟩
  ·exact ⟨_,rfl,by decide⟩
  ·exact ⟨_,rfl,by decide⟩
  ·exact ⟨_,rfl,by decide⟩
  ·omega
 obtain ⟨sv,v1,v2⟩:=hsv
 have hrk:∃rk:Int,((rows [[C.i 1],[C.i 1],[C.i 5],[C.i 5],[C.i 9],[C.i 50]]).getD (x3:Int).toNat []).getD 0 .nil=.i rk:=by
  rcases x3 with _|_|_|_|_|_|x3
  ·exact ⟨_,rfl⟩
  ·exact ⟨_,rfl⟩
  ·exact ⟨_,rfl⟩
  ·exact ⟨_,rfl⟩
  ·exact ⟨_,rfl⟩
  ·exact ⟨_,rfl⟩
  ·omega
 obtain ⟨rk,r1⟩:=hrk
 have l1:decide ((x1:Int)<((rows [[C.s (Go.Ev.bs #[119,101,98])],[C.s (Go.Ev.bs #[100,98])],[C.s (Go.Ev.bs #[106,111,98])],[C.s (Go.Ev.bs #[99,97,99,104,101])]]).length:Int))=true:=by
  show decide ((x1:Int)<4)=true
  simp;omega
 have l3:decide ((x3:Int)<((rows [[C.i 1],[C.i 1],[C.i 5],[C.i 5],[C.i 9],[C.i 50]]).length:Int))=true:=by
  show decide ((x3:Int)<6)=true
  simp;omega
 have b1:(Go.Ev.bs #[45]).size=1:=rfl
 have b2:(sv++Go.Ev.bs #[45]).size=sv.size+1:=by rw[ByteArray.size_append];rfl
 have b3:((sv++Go.Ev.bs #[45])++s).size=sv.size+1+s.size:=by rw[ByteArray.size_append,b2]
 have c1:sv.size+1≤4294967296:=by omega
 have c2:sv.size+1+s.size≤4294967296:=by omega
 simp only[bW,bW.d3,apL,jC,jD,g1,g2,g3,g4,g5,g6,g7,g8,call3,ae,jI,C.I_i,jX,decide_true,jR,v1,r1,l1,l3,C.S_s,b1,b2,c1,c2,w1]
 obtain ⟨L,p2,q1,q2,q3,q4,q5⟩:=qj hb hl (.s sv) (.s (Go.Ev.bs #[])) (.s (Go.Ev.bs #[])) (.i 0) (.i 0) (.i 0) (.i 0) (.s (Go.Ev.bs #[])) (.i 0) (.s (Go.Ev.bs #[])) (.s (Go.Ev.bs #[])) (.s (Go.Ev.bs #[])) (.s ((sv++Go.Ev.bs #[45])++s)) (.s sv) (.i rk) (.i x4) (.i (w64 (1+(x5:Int)))) (.i x6) (.s sel) (.i 0) (.s (Go.Ev.bs #[])) (.s (Go.Ev.bs #[])) (.s (Go.Ev.bs #[])) 3 ((x8:Int)-2) (p1+1) [] (by omega) (by omega) (by omega) (by omega) (by omega) (by simp) (fun x hx=>by simp at hx)
 simp only[List.map_nil] at q1
 have q1':=q1
 erw[q1']
 obtain ⟨c,p3,r2,r3,r4,r5⟩:=FC hb hl (nm:=(sv++Go.Ev.bs #[45])++s) (sv:=sv) (sel:=sel) (rk:=rk) (bn:=x4) (rm:=w64 (1+(x5:Int))) (hd:=x6) (L:=L) (.s (Go.Ev.bs #[])) (.s (Go.Ev.bs #[])) (.i 0) (.i 0) (.i 0) (.i 0) (.s (Go.Ev.bs #[])) (.i 0) (.s (Go.Ev.bs #[])) (.s (Go.Ev.bs #[])) (.s (Go.Ev.bs #[])) (.l ah) (by rw[b3];omega) (by omega) (by omega) q2 q3 (p:=p2) (by omega) (by omega)
 refine ⟨c,p3,?_,r3,by omega,by omega⟩
 simp only[bg]
 erw[r2]
 rfl
end
end Go.Ev
namespace Go.Ev
abbrev E0:List C:=[.s (Go.Ev.bs #[]),.s (Go.Ev.bs #[]),.l [],.i 0,.i 0,.b false]
abbrev ev3 (c:Cp):List C:=.i 3::E0++c.e++[.s (Go.Ev.bs #[]),.s (Go.Ev.bs #[])]
abbrev ev5 (nm at_:Str):List C:=.i 5::E0++[.s (Go.Ev.bs #[]),.s (Go.Ev.bs #[]),.i 0,.i 0,.i 0,.i 0,.s (Go.Ev.bs #[]),.l [],.i 0,.s (Go.Ev.bs #[]),.s (Go.Ev.bs #[]),.s (Go.Ev.bs #[]),.s nm,.s at_]
theorem Gk {l:List Cp} (nm:Str) {body:List C→R} {S:Nat→List C} (hs:∀i (h:i<l.length),body (S i)=if sLt l[i].name nm=true then some (.again (S (i+1))) else some (.brk 5 (S i))) (he:body (S l.length)=some (.brk 5 (S l.length))):
  ∀d i,i+d=l.length→∃j,j≤l.length∧lim body (S i)=some (.brk 5 (S j))
 |0,i,h=>by
  have:i=l.length:=by omega
  subst this
  exact ⟨_,Nat.le_refl _,aY he⟩
 |d+1,i,h=>by
  have hi:i<l.length:=by omega
  by_cases hc:sLt l[i].name nm=true
  ·obtain ⟨j,a,b⟩:=Gk nm hs he d (i+1) (by omega)
   exact ⟨j,a,by rw[aO (by rw[hs i hi,if_pos hc])];exact b⟩
  ·exact ⟨i,by omega,aY (by rw[hs i hi,if_neg hc])⟩
section
variable {f:Fl} (hz:f.Sz 1048576)
include hz
theorem GY {c:Cp} (hc:c.Sz 1048576) (h60:f.cps.length≤1000):
  ∃l:List Cp,ak (f.e++ev3 c)=some [.b f.pack,.b true,.l (f.bts.map Bt.e),.l (f.svs.map Sv.e),.l (l.map Cp.e)]∧l.length≤f.cps.length+1∧∀x,x∈l→x∈f.cps∨x=c:=by
 have hF:=eL hz
 have hco:=ml hc.2.2.2.2.2.2.1
 have hlc:f.cps.length<big:=by simp only[big];omega
 obtain ⟨j,hj,h1⟩:=Gk (l:=f.cps) c.name (body:=apn 30 ak.d6) (S:=fun i=>[C.i (i:Nat),.i 3]++E0++c.e++[.s (Go.Ev.bs #[]),.s (Go.Ev.bs #[]),.b false,.b f.pack,.l [],.l [],.l [],.l (f.bts.map Bt.e),.l (f.svs.map Sv.e),.l (f.cps.map Cp.e)])
  (fun i hi=>by
   simp only[E0,Cp.e,jA,jB,apL,jC,jD,ak.d6,C.I_i,C.L_l,C.S_s,jW,jY,ltL hi,decide_true,jR,jX,w1 hi hlc]
   rw[getD_map' Cp.e hi]
   simp only[Cp.e,jC,C.S_s]
   rw[show Op.bytesLess f.cps[i].name.toList c.name.toList=sLt f.cps[i].name c.name from rfl]
   cases sLt f.cps[i].name c.name<;>simp)
  (by simp[E0,Cp.e,ak.d6])
  f.cps.length 0 (by omega)
 have hrest:∃r:List Cp,(∀x,x∈r→x∈f.cps)∧r.length≤f.cps.length-j∧apn 30 ak.d8 ([C.i (j:Nat),.i 3]++E0++c.e++[.s (Go.Ev.bs #[]),.s (Go.Ev.bs #[]),.b false,.b f.pack,.l [],.l [],.l [],.l (f.bts.map Bt.e),.l (f.svs.map Sv.e),.l (f.cps.map Cp.e)])=some (.ret [.b f.pack,.b true,.l (f.bts.map Bt.e),.l (f.svs.map Sv.e),.l ((f.cps.take j++[c]++r).map Cp.e)]):=by
  have d7:∀r:List Cp,r.length≤f.cps.length→apn 31 ak.d7 ([C.i (j:Nat),.l (r.map Cp.e),.i 3]++E0++c.e++[.s (Go.Ev.bs #[]),.s (Go.Ev.bs #[]),.b false,.b f.pack,.l (f.cps.map Cp.e),.l [],.l [],.l [],.l (f.bts.map Bt.e),.l (f.svs.map Sv.e)])=some (.ret [.b f.pack,.b true,.l (f.bts.map Bt.e),.l (f.svs.map Sv.e),.l ((f.cps.take j++[c]++r).map Cp.e)]):=fun r hr=>by
   have b1:(j:Int)≤(f.cps.length:Int):=by omega
   have b2:min j f.cps.length≤4294967296:=by omega
   have b3:min j f.cps.length+1≤4294967296:=by omega
   have b4:min j f.cps.length+1+r.length≤4294967296:=by omega
   simp only[Cp.e,Cp.o] at hco
   simp only[E0,Cp.e,jA,jB,apL,jC,jD,ak.d7,C.I_i,C.L_l,jW,jY,jX,decide_true,jR,hco,call12,jI,b1,List.drop_zero,ah,List.length_take,b2,Nat.zero_add,List.length_nil,List.length_append,rows,List.length_cons,b3,b4,List.map_append,List.map_cons,List.map_nil,List.map_take]
  by_cases hn:j<f.cps.length
  ·have hd:f.cps.drop j=f.cps[j]::f.cps.drop (j+1):=List.drop_eq_getElem_cons hn
   have hl1:(f.cps.drop (j+1)).length≤f.cps.length:=by rw[List.length_drop];omega
   have hb1:(j:Int)≤(f.cps.length:Int):=by omega
   have e1:((f.cps.map Cp.e).take (f.cps.length:Int).toNat).drop (j:Int).toNat=f.cps[j].e::(f.cps.drop (j+1)).map Cp.e:=by
    rw[jY,jY,List.take_of_length_le (by rw[jW];omega),←List.map_drop,hd];rfl
   cases hq:sEq f.cps[j].name c.name with
   |true=>
    refine ⟨f.cps.drop (j+1),fun x hx=>List.mem_of_mem_drop hx,by rw[List.length_drop];omega,?_⟩
    rw[←d7 _ hl1]
    have e2:(f.cps[j].name.toList==c.name.toList)=true:=hq
    have hbs:=e1
    simp only[Cp.e] at hbs
    simp only[E0,Cp.e,jA,jB,apL,jC,jD,ak.d8,C.I_i,C.L_l,C.S_s,jW,jX,decide_true,jR,hb1,Int.le_refl,hbs,List.length_cons,e2,jJ]
    have t1:(((f.cps.drop (j+1)).length+1:Nat):Int)>0:=by omega
    have t2:(0:Int)<(((f.cps.drop (j+1)).length+1:Nat):Int):=by omega
    have t3:(1:Int)≤(((f.cps.drop (j+1)).length+1:Nat):Int):=by omega
    simp only[t1,t2,t3,decide_true,jR,jJ,jY,List.take_succ_cons,List.drop_succ_cons,List.drop_zero]
    rw[List.take_of_length_le (by rw[jW];exact Nat.le_refl _)]
    rfl
   |false=>
    refine ⟨f.cps.drop j,fun x hx=>List.mem_of_mem_drop hx,by rw[List.length_drop];omega,?_⟩
    rw[←d7 _ (by rw[List.length_drop];omega)]
    have e2:(f.cps[j].name.toList==c.name.toList)=false:=hq
    have hbs:=e1
    simp only[Cp.e] at hbs
    simp only[E0,Cp.e,jA,jB,apL,jC,jD,ak.d8,C.I_i,C.L_l,C.S_s,jW,jX,decide_true,jR,hb1,Int.le_refl,hbs,List.length_cons,e2,jJ]
    have t1:(((f.cps.drop (j+1)).length+1:Nat):Int)>0:=by omega
    have t2:(0:Int)<(((f.cps.drop (j+1)).length+1:Nat):Int):=by omega
    simp only[t1,t2,decide_true,jR,jS,jJ,hd,List.map_cons]
    rfl
  ·refine ⟨[],fun x hx=>by simp at hx,by simp,?_⟩
   rw[←d7 _ (by simp)]
   have e1:((f.cps.map Cp.e).take (f.cps.length:Int).toNat).drop (j:Int).toNat=[]:=by
    rw[jY,jY];apply List.drop_eq_nil_of_le;rw[List.length_take,jW];omega
   have hb1:(j:Int)≤(f.cps.length:Int):=by omega
   simp only[E0,Cp.e,jA,jB,apL,jC,jD,ak.d8,C.I_i,C.L_l,C.S_s,jW,jX,decide_true,jR,hb1,Int.le_refl,e1,List.length_nil,jJ]
   rfl
 obtain ⟨r,r1,r2,r3⟩:=hrest
 refine ⟨f.cps.take j++[c]++r,?_,?_,fun x hx=>?_⟩
 ·simp only[ak,ev3,E0,Fl.e,Cp.e,jA,jB] at hF h1 r3⊢
  simp only[ak.d9,apL,jC,jD,hF,call4,jI,C.I_i,C.L_l,ah]
  simp only[show ((3:Int)==1)=false from rfl,show ((3:Int)==2)=false from rfl,show ((3:Int)==3)=true from rfl,jS,jR]
  simp only[Int.natCast_zero] at h1
  erw[h1]
  simp only[bg,r3]
  rfl
 ·simp only[List.length_append,List.length_take,List.length_cons,List.length_nil];omega
 ·rcases List.mem_append.1 hx with hx|hx
  ·rcases List.mem_append.1 hx with hx|hx
   ·exact .inl (List.mem_of_mem_take hx)
   ·exact .inr (List.mem_singleton.1 hx)
  ·exact .inl (r1 x hx)
theorem GK (nm at_:Str) (h12:f.bts.length≤1000) (h60:f.cps.length≤1000):
  ∃(l:List Cp) (ok:Bool),ak (f.e++ev5 nm at_)=some [.b f.pack,.b ok,.l (f.bts.map Bt.e),.l (f.svs.map Sv.e),.l (l.map Cp.e)]∧l.length=f.cps.length∧∀x,x∈l→x∈f.cps∨∃y,y∈f.cps∧x= {y with at_:=at_}:=by
 have hF:=eL hz
 have hC:=pq f nm (by omega)
 have hB:=gU f at_ (by omega)
 have sd:=pB (fun x:Cp=>sEq x.name nm) f.cps 0
 have fin:ak (f.e++ev5 nm at_)=bif decide (cIx f nm<0) then some [.b f.pack,.b false,.l (f.bts.map Bt.e),.l (f.svs.map Sv.e),.l (f.cps.map Cp.e)] else bif (!(at_.toList==(Go.Ev.bs #[]).toList))&&decide (bIx f at_<0) then some [.b f.pack,.b false,.l (f.bts.map Bt.e),.l (f.svs.map Sv.e),.l (f.cps.map Cp.e)] else bif decide (0≤cIx f nm)&&decide (cIx f nm<(f.cps.length:Int)) then some [.b f.pack,.b true,.l (f.bts.map Bt.e),.l (f.svs.map Sv.e),.l ((f.cps.map Cp.e).set (cIx f nm).toNat (aK ((f.cps.map Cp.e).getD (cIx f nm).toNat []) 11 [.s at_]))] else none:=by
  simp only[Fl.e] at hF
  simp only[Fl.e,jA,jB] at hC hB
  simp only[ak,ev5,E0,Fl.e,jA,jB]
  simp only[ak.d9,apL,jC,jD,hF,call4,ae,jI,C.I_i,C.L_l,C.S_s,ah,hC,hB]
  simp only[show ((5:Int)==1)=false from rfl,show ((5:Int)==2)=false from rfl,show ((5:Int)==3)=false from rfl,show ((5:Int)==4)=false from rfl,show ((5:Int)==5)=true from rfl,jS,jR]
  rw[jW]
  cases decide (cIx f nm<0)<;>cases (at_.toList==(Go.Ev.bs #[]).toList)<;>cases decide (bIx f at_<0)<;>cases decide (0≤cIx f nm)<;>cases decide (cIx f nm<(f.cps.length:Int))<;>rfl
 rw[fin]
 rcases sd with sd|⟨i,hi,e1,e2⟩
 ·rw[show decide (cIx f nm<0)=true from decide_eq_true sd,jR]
  exact ⟨f.cps,false,rfl,rfl,fun x hx=>.inl hx⟩
 ·have e1:cIx f nm=((i:Nat):Int):=by rw[show cIx f nm=dI (fun x:Cp=>sEq x.name nm) f.cps 0 from rfl,e1,Nat.zero_add]
  rw[e1,show decide (((i:Nat):Int)<0)=false from decide_eq_false (by omega),jS]
  cases (!(at_.toList==(Go.Ev.bs #[]).toList))&&decide (bIx f at_<0) with
  |true=>exact ⟨f.cps,false,rfl,rfl,fun x hx=>.inl hx⟩
  |false=>
   rw[jS,ltL hi,show decide (0≤((i:Nat):Int))=true from decide_eq_true (by omega),jY,getD_map' Cp.e hi]
   refine ⟨f.cps.set i {f.cps[i] with at_:=at_},true,?_,List.length_set,fun x hx=>?_⟩
   ·rw[List.map_set];rfl
   ·rcases List.mem_or_eq_of_mem_set hx with hx|hx
    ·exact .inl hx
    ·exact .inr ⟨_,List.getElem_mem hi,hx⟩
end
end Go.Ev
namespace Go.Ev
section
variable {f:Fl} (hz:f.Sz 1048576)
include hz
theorem Dm {k:Int} (hk1:1≤k) (hk5:k≤5) {E:List C} (hE:E.length=20) {l:List Cp} {ok:Bool} (hx:({f with cps:=l}:Fl).Sz 1048576) (he:ak (f.e++(.i k::E))=some [.b f.pack,.b ok,.l (f.bts.map Bt.e),.l (f.svs.map Sv.e),.l (l.map Cp.e)]):
  ∃(x:Fl) (code:Int),bm (f.e++(.i k::E))=some [.b x.pack,.i code,.l (x.bts.map Bt.e),.l (x.svs.map Sv.e),.l (x.cps.map Cp.e)]∧(code=0→x= {f with cps:=l}∧bJ x=true):=by
 have v1:=iA hz
 have v2:=iA hx
 have w:=eT k 1 5
 have w':within k 1 5=true:=by simp[within,hk1,hk5]
 have z:∀code:Int,code≠0→∃(x:Fl) (c:Int),some [C.b false,.i code,.l [],.l [],.l []]=some [.b x.pack,.i c,.l (x.bts.map Bt.e),.l (x.svs.map Sv.e),.l (x.cps.map Cp.e)]∧(c=0→x= {f with cps:=l}∧bJ x=true):=fun code h=>⟨⟨false,[],[],[]⟩,code,rfl,fun h'=>absurd h' h⟩
 match E,hE with
 |[e1,e2,e3,e4,e5,e6,e7,e8,e9,e10,e11,e12,e13,e14,e15,e16,e17,e18,e19,e20],_=>
  simp only[Fl.e,jA,jB] at he v1 v2
  simp only[bm,bm.d2,Fl.e,jA,jB,apL,jC,jD,v1,ae,jI,he,call5,C.B_b,C.L_l,v2,ah]
  cases hv:bJ f with
  |false=>exact z 1 (by decide)
  |true=>
   cases ok with
   |false=>exact z 3 (by decide)
   |true=>
    cases hv2:bJ {f with cps:=l} with
    |false=>exact z 2 (by decide)
    |true=>
     refine ⟨{f with cps:=l},0,?_,fun _=>⟨rfl,hv2⟩⟩
     simp only[bm.d1,apL,jC,jD,jZ,jS,jR,jJ,C.B_b,w,w',ae,jI,C.L_l]
     rfl
end
structure Dr (bts:List Bt) (svs:List Sv) (pk:Bool) (f:Fl):Prop where
 b:f.bts=bts
 s:f.svs=svs
 p:f.pack=pk
 n:f.cps.length≤60
 z:∀c,c∈f.cps→c.Sz 1000
 v:f.cps=[]∨bJ f=true
theorem Cp.Sz.up {c:Cp} (h:c.Sz 1000):c.Sz 1048576:=⟨by have:=h.1;omega,by have:=h.2.1;omega,by have:=h.2.2.1;omega,by have:=h.2.2.2.1;omega,by have:=h.2.2.2.2.1;omega,by have:=h.2.2.2.2.2.1;omega,by have:=h.2.2.2.2.2.2.1;omega,fun x hx=>Nat.le_trans (h.2.2.2.2.2.2.2 x hx) (by decide)⟩
theorem Bt.Sz.up {b:Bt} (h:b.Sz 1000):b.Sz 1048576:=⟨by have:=h.1;omega,by have:=h.2.1;omega,by have:=h.2.2.1;omega,fun x hx=>Nat.le_trans (h.2.2.2 x hx) (by decide)⟩
theorem Fl.Sz.up {f:Fl} (h:f.Sz 1000):f.Sz 1048576:=⟨⟨by have:=h.1.1;omega,fun b hb=>(h.1.2 b hb).up⟩,⟨by have:=h.2.1.1;omega,fun s hs=>Nat.le_trans (h.2.1.2 s hs) (by decide)⟩,by have:=h.2.2.1;omega,fun c hc=>(h.2.2.2 c hc).up⟩
section
variable {bts:List Bt} {svs:List Sv} {pk:Bool} (hbt:bts.length≤12∧∀b,b∈bts→b.Sz 1000) (hsv:svs.length≤30∧∀s,s∈svs→s.Sz 1000)
include hbt hsv
theorem Dr.szD {f:Fl} (D:Dr bts svs pk f):f.Sz 1000:=by
 refine ⟨?_,?_,by have:=D.n;omega,D.z⟩
 ·rw[D.b];exact ⟨by omega,hbt.2⟩
 ·rw[D.s];exact ⟨by omega,hsv.2⟩
theorem Dr.ev3 {f:Fl} (D:Dr bts svs pk f) {c:Cp} (hc:c.Sz 1000):
  ∃(x:Fl) (code:Int),bm (f.e++Go.Ev.ev3 c)=some [.b x.pack,.i code,.l (x.bts.map Bt.e),.l (x.svs.map Sv.e),.l (x.cps.map Cp.e)]∧(code=0→Dr bts svs pk x):=by
 have hz:=(D.szD hbt hsv).up
 obtain ⟨l,h1,h2,h3⟩:=GY hz hc.up (by have:=D.n;omega)
 have hl:∀x,x∈l→x.Sz 1000:=fun x hx=>(h3 x hx).elim (D.z x) (fun e=>e▸hc)
 have hx:({f with cps:=l}:Fl).Sz 1048576:=⟨hz.1,hz.2.1,by show l.length≤1048576;have:=D.n;omega,fun x h=>(hl x h).up⟩
 have e3:Go.Ev.ev3 c=.i 3::(E0++c.e++[.s (Go.Ev.bs #[]),.s (Go.Ev.bs #[])]):=by simp only[Go.Ev.ev3,jA]
 rw[e3] at h1⊢
 obtain ⟨x,code,g1,g2⟩:=Dm hz (by decide) (by decide) (by simp[E0,Cp.e]) hx h1
 refine ⟨x,code,g1,fun h=>?_⟩
 obtain ⟨rfl,q⟩:=g2 h
 exact ⟨D.b,D.s,D.p,BD (DC q),hl,.inr q⟩
theorem Dr.ev5 {f:Fl} (D:Dr bts svs pk f) {nm at_:Str} (ha:at_.size≤1000):
  ∃(x:Fl) (code:Int),bm (f.e++Go.Ev.ev5 nm at_)=some [.b x.pack,.i code,.l (x.bts.map Bt.e),.l (x.svs.map Sv.e),.l (x.cps.map Cp.e)]∧(code=0→Dr bts svs pk x):=by
 have hz:=(D.szD hbt hsv).up
 obtain ⟨l,ok,h1,h2,h3⟩:=GK hz nm at_ (by rw[D.b];omega) (by have:=D.n;omega)
 have hl:∀x,x∈l→x.Sz 1000:=fun x hx=>(h3 x hx).elim (D.z x) (fun ⟨y,hy,e⟩=>by
  have:=D.z y hy
  rw[e]
  exact ⟨this.1,this.2.1,this.2.2.1,this.2.2.2.1,this.2.2.2.2.1,ha,this.2.2.2.2.2.2⟩)
 have hx:({f with cps:=l}:Fl).Sz 1048576:=⟨hz.1,hz.2.1,by show l.length≤1048576;have:=D.n;omega,fun x h=>(hl x h).up⟩
 have e5:Go.Ev.ev5 nm at_=.i 5::(E0++[.s (Go.Ev.bs #[]),.s (Go.Ev.bs #[]),.i 0,.i 0,.i 0,.i 0,.s (Go.Ev.bs #[]),.l [],.i 0,.s (Go.Ev.bs #[]),.s (Go.Ev.bs #[]),.s (Go.Ev.bs #[]),.s nm,.s at_]):=by simp only[Go.Ev.ev5,jA]
 rw[e5] at h1⊢
 obtain ⟨x,code,g1,g2⟩:=Dm hz (by decide) (by decide) (by simp[E0]) hx h1
 refine ⟨x,code,g1,fun h=>?_⟩
 obtain ⟨rfl,q⟩:=g2 h
 exact ⟨D.b,D.s,D.p,BD (DC q),hl,.inr q⟩
end
end Go.Ev
namespace Go.Ev
section
variable {bs:List (List C)} (hb:BY bs) (hl:bs.length≤2000)
include hb hl
theorem Ih (pk:Bool):∀(d n:Nat) (L:List Bt) (p:Int),n=L.length+d→n≤10→(∀b,b∈L→b.Sz 1000)→0≤p→p≤1125899906842624-40000+(0-100)*d→
  ∃(L':List Bt) (p':Int),lim (apn 12 aJ.d1) [.i n,.i L.length,.l bs,.i p,.b false,.b pk,.l [],.l [],.l [],.l (L.map Bt.e),.l [],.l []]=some (.brk 0 [.l bs,.i p',.b false,.b pk,.l [],.l [],.l [],.l (L'.map Bt.e),.l [],.l []])∧L'.length=n∧(∀b,b∈L'→b.Sz 1000)∧p≤p'∧p'≤p+10*d:=by
 intro d
 induction d with
 |zero=>
  intro n L p hn hn10 hL h0 h1
  refine ⟨L,p,aY ?_,by omega,hL,by omega,by omega⟩
  have:¬((L.length:Int)<(n:Int)):=by omega
  simp only[apL,jC,jD,aJ.d1,C.I_i,this,decide_false,jS,C.L_l]
 |succ d ih=>
  intro n L p hn hn10 hL h0 h1
  obtain ⟨s,g2,hs⟩:=vG (n:=L.length) (by omega)
  have b1:(Go.Ev.bs #[98]).size=1:=rfl
  obtain ⟨b,p1,g1,a1,a2,a3,a4⟩:=zw hb hl (nm:=Go.Ev.bs #[98]++s) (by rw[ByteArray.size_append,b1];omega) (p:=p) h0 (by omega)
  have c0:(L.length:Int)<(n:Int):=by omega
  have c1:1+s.size≤4294967296:=by omega
  have c2:L.length+1≤4294967296:=by omega
  have ww:w64 ((L.length:Int)+1)=(((L++[b]).length:Nat):Int):=by rw[aZ (by omega) (by omega)];simp
  obtain ⟨L',p',q1,q2,q3,q4,q5⟩:=ih n (L++[b]) p1 (by simp;omega) hn10 (fun x hx=>by
   rcases List.mem_append.1 hx with hx|hx
   ·exact hL x hx
   ·rw[List.mem_singleton.1 hx];exact a2) (by omega) (by omega)
  refine ⟨L',p',?_,q2,q3,by omega,by omega⟩
  rw[←q1]
  apply aO
  simp only[apL,jC,jD,aJ.d1,C.I_i,c0,decide_true,jR,g2,ae,jI,C.S_s,b1,c1,g1,call8,C.L_l,jW,rows,List.length_cons,List.length_nil,Nat.zero_add,c2,ww,List.map_append,List.map_cons,List.map_nil,Bt.e]
theorem HH (pk:Bool) (bt:List (List C)):∀(d:Nat) (L:List Sv) (p:Int),L.length+d=4→(∀s,s∈L→s.Sz 1000)→0≤p→p≤1125899906842624-40000+(0-100)*d→
  ∃(L':List Sv) (p':Int),lim (apn 11 aJ.d2) [.i L.length,.l bs,.i p,.b false,.b pk,.l [],.l [],.l [],.l bt,.l (L.map Sv.e),.l []]=some (.brk 2 [.l bs,.i p',.b false,.b pk,.l [],.l [],.l [],.l bt,.l (L'.map Sv.e),.l []])∧L'.length=4∧(∀s,s∈L'→s.Sz 1000)∧p≤p'∧p'≤p+10*d:=by
 intro d
 induction d with
 |zero=>
  intro L p hn hL h0 h1
  refine ⟨L,p,aY ?_,by omega,hL,by omega,by omega⟩
  have:¬((L.length:Int)<4):=by omega
  simp only[apL,jC,jD,aJ.d2,C.I_i,this,decide_false,jS,C.L_l]
 |succ d ih=>
  intro L p hn hL h0 h1
  obtain ⟨k,hk,e⟩:=aU hb hl h0 (show p≤1125899906842624 by omega) (n:=5) (by omega) (by omega)
  have c0:(L.length:Int)<4:=by omega
  have c2:L.length+1≤4294967296:=by omega
  have hsv:∃sv:Str,((rows [[C.s (Go.Ev.bs #[99,97,99,104,101])],[C.s (Go.Ev.bs #[100,98])],[C.s (Go.Ev.bs #[106,111,98])],[C.s (Go.Ev.bs #[119,101,98])]]).getD L.length []).getD 0 .nil=.s sv∧sv.size≤10:=by
   generalize L.length=n at c0
   rcases n with _|_|_|_|n
   ·exact ⟨_,rfl,by decide⟩
   ·exact ⟨_,rfl,by decide⟩
   ·exact ⟨_,rfl,by decide⟩
   ·exact ⟨_,rfl,by decide⟩
   ·omega
  obtain ⟨sv,v1,v2⟩:=hsv
  have l1:(L.length:Int)<((rows [[C.s (Go.Ev.bs #[99,97,99,104,101])],[C.s (Go.Ev.bs #[100,98])],[C.s (Go.Ev.bs #[106,111,98])],[C.s (Go.Ev.bs #[119,101,98])]]).length:Int):=c0
  have ww:w64 ((L.length:Int)+1)=(((L++[(⟨sv,k⟩:Sv)]).length:Nat):Int):=by rw[aZ (by omega) (by omega)];simp
  obtain ⟨L',p',q1,q2,q3,q4,q5⟩:=ih (L++[⟨sv,k⟩]) (p+1) (by simp;omega) (fun x hx=>by
   rcases List.mem_append.1 hx with hx|hx
   ·exact hL x hx
   ·rw[List.mem_singleton.1 hx];show sv.size≤1000;omega) (by omega) (by omega)
  refine ⟨L',p',?_,q2,q3,by omega,by omega⟩
  rw[←q1]
  apply aO
  simp only[apL,jC,jD,aJ.d2,C.I_i,c0,l1,decide_true,jR,jX,jY,v1,e,call3,jI,C.L_l,jW]
  simp only[rows,List.length_cons,List.length_nil,Nat.zero_add,c2,ww,List.map_append,List.map_cons,List.map_nil,Sv.e,decide_true,jR]
section
variable {bts:List Bt} {svs:List Sv} {pk:Bool} (hbt:bts.length≤12∧∀b,b∈bts→b.Sz 1000) (hsv:svs.length≤30∧∀s,s∈svs→s.Sz 1000)
include hbt hsv
theorem HM (k:C):∀(n:Nat) (f:Fl) (p:Int),Dr bts svs pk f→n≤20→0≤p→p≤1125899906842624-35000+(0-1000)*n→
  ∃(f':Fl) (p':Int),lim (apn 12 aJ.d3) [k,.i n,.l bs,.i p,.b false,.b f.pack,.l (f.bts.map Bt.e),.l (f.svs.map Sv.e),.l (f.cps.map Cp.e),.l [],.l [],.l []]=some (.brk 4 [k,.l bs,.i p',.b false,.b f'.pack,.l (f'.bts.map Bt.e),.l (f'.svs.map Sv.e),.l (f'.cps.map Cp.e),.l [],.l [],.l []])∧Dr bts svs pk f'∧p≤p'∧p'≤p+1000*n:=by
 intro n
 induction n with
 |zero=>
  intro f p D hn h0 h1
  refine ⟨f,p,aY ?_,D,by omega,by omega⟩
  rfl
 |succ n ih=>
  intro f p D hn h0 h1
  obtain ⟨c,p1,g1,a1,a2,a3⟩:=Ge hb hl (n:=n+1) (by omega) (p:=p) h0 (by omega)
  obtain ⟨x,code,e1,e2⟩:=D.ev3 hbt hsv a1
  have c0:(((n+1:Nat):Int)>0):=by omega
  have ww:w64 (((n+1:Nat):Int)-1)=(n:Int):=by rw[aZ (by omega) (by omega)];omega
  have stp:apn 12 aJ.d3 [k,.i (n+1:Nat),.l bs,.i p,.b false,.b f.pack,.l (f.bts.map Bt.e),.l (f.svs.map Sv.e),.l (f.cps.map Cp.e),.l [],.l [],.l []]=bif code==0 then some (.again [k,.i n,.l bs,.i p1,.b false,.b x.pack,.l (x.bts.map Bt.e),.l (x.svs.map Sv.e),.l (x.cps.map Cp.e),.l [],.l [],.l []]) else some (.again [k,.i n,.l bs,.i p1,.b false,.b f.pack,.l (f.bts.map Bt.e),.l (f.svs.map Sv.e),.l (f.cps.map Cp.e),.l [],.l [],.l []]):=by
   simp only[Fl.e,ev3,E0,Cp.e,jA,jB] at e1
   simp only[Cp.e,jA,jB] at g1
   simp only[apL,jC,jD,aJ.d3,C.I_i,c0,decide_true,jR,g1,call14,jI,ah,e1,call5,C.L_l,ww]
  cases hq:(code==0) with
  |true=>
   obtain ⟨f',p',q1,q2,q3,q4⟩:=ih x p1 (e2 (by simpa using hq)) (by omega) (by omega) (by omega)
   refine ⟨f',p',?_,q2,by omega,by omega⟩
   rw[aO (by rw[stp,hq];rfl),q1]
  |false=>
   obtain ⟨f',p',q1,q2,q3,q4⟩:=ih f p1 D (by omega) (by omega) (by omega)
   refine ⟨f',p',?_,q2,by omega,by omega⟩
   rw[aO (by rw[stp,hq];rfl),q1]
end
end
end Go.Ev
namespace Go.Ev
section
variable {bs:List (List C)} (hb:BY bs) (hl:bs.length≤2000)
include hb hl
section
variable {bts:List Bt} {svs:List Sv} {pk:Bool} (hbt:(1≤bts.length∧bts.length≤12)∧∀b,b∈bts→b.Sz 1000) (hsv:svs.length≤30∧∀s,s∈svs→s.Sz 1000)
include hbt hsv
abbrev st5 (k:C) (i:Int) (bs:List (List C)) (p:Int) (f:Fl):List C:=[k,.i i,.l bs,.i p,.b false,.b f.pack,.l (f.bts.map Bt.e),.l (f.svs.map Sv.e),.l (f.cps.map Cp.e),.l [],.l [],.l []]
theorem HA (k:C) {f:Fl} (D:Dr bts svs pk f) {i:Nat} (hi:i<f.cps.length) (b:Bt) (hbb:b.name.size≤1000) (fl:Bool) (p:Int):
  ∃f',apn 19 aJ.d4 ([k,.i i,.b fl,.l bs,.i p,.b false]++f.e++b.e++[.l [],.l [],.l []])=some (.again (st5 k (i+1:Nat) bs p f'))∧Dr bts svs pk f':=by
 have hlc:f.cps.length<big:=by have:=D.n;simp only[big];omega
 obtain ⟨x,code,e1,e2⟩:=D.ev5 ⟨hbt.1.2,hbt.2⟩ hsv (nm:=f.cps[i].name) (at_:=b.name) hbb
 cases fl with
 |false=>
  refine ⟨f,?_,D⟩
  simp only[st5,Fl.e,Bt.e,jA,jB,apL,jC,jD,aJ.d4,C.B_b,jS,C.I_i,w1 hi hlc,C.L_l]
 |true=>
  have stp:apn 19 aJ.d4 ([k,.i i,.b true,.l bs,.i p,.b false]++f.e++b.e++[.l [],.l [],.l []])=bif code==0 then some (.again (st5 k (i+1:Nat) bs p x)) else some (.again (st5 k (i+1:Nat) bs p f)):=by
   simp only[Fl.e,ev5,E0,jA,jB] at e1
   simp only[st5,Fl.e,Bt.e,jA,jB,apL,jC,jD,aJ.d4,C.B_b,jR,C.I_i,w1 hi hlc,C.L_l,jW,ltL hi,jX,decide_true,jY]
   rw[getD_map' Cp.e hi]
   simp only[Cp.e,jC,jD,ah,e1,call5,jI,C.I_i,C.L_l]
  cases hq:(code==0) with
  |true=>exact ⟨x,by rw[stp,hq];rfl,e2 (by simpa using hq)⟩
  |false=>exact ⟨f,by rw[stp,hq];rfl,D⟩
theorem HW (a:Int):∀(d i:Nat) (f:Fl) (p:Int),60≤i+d→Dr bts svs pk f→0≤p→p≤1125899906842624-20000+(0-10)*d→
  ∃(f':Fl) (p':Int),lim (apn 12 aJ.d5) (st5 (.i a) i bs p f)=some (.brk 6 [.l bs,.i p',.b false,.b f'.pack,.l (f'.bts.map Bt.e),.l (f'.svs.map Sv.e),.l (f'.cps.map Cp.e),.l [],.l [],.l []])∧Dr bts svs pk f'∧p≤p'∧p'≤p+10*d:=by
 intro d
 induction d with
 |zero=>
  intro i f p hn D h0 h1
  refine ⟨f,p,aY ?_,D,by omega,by omega⟩
  have:¬((i:Int)<(f.cps.length:Int)):=by have:=D.n;omega
  simp only[st5,apL,jC,jD,aJ.d5,C.I_i,C.L_l,jW,this,decide_false,jS]
 |succ d ih=>
  intro i f p hn D h0 h1
  by_cases hi:i<f.cps.length
  ·have hlc:f.cps.length<big:=by have:=D.n;simp only[big];omega
   have hne:f.cps≠[]:=fun h=>by rw[h] at hi;simp at hi
   have hv:bJ f=true:=D.v.resolve_left hne
   have hz:=(D.szD ⟨hbt.1.2,hbt.2⟩ hsv).up
   obtain ⟨m,hm,g1⟩:=aU hb hl h0 (show p≤1125899906842624 by omega) (n:=4) (by omega) (by omega)
   have hn1:f.bts.length=bts.length:=by rw[D.b]
   obtain ⟨j,hj,g2⟩:=aU hb hl (p:=p+1) (n:=(f.bts.length:Int)) (by omega) (by omega) (by omega) (by omega)
   have hj':j<f.bts.length:=by omega
   obtain ⟨t,ht,g3⟩:=aU hb hl (p:=p+1+1) (n:=8) (by omega) (by omega) (by omega) (by omega)
   have hcm:=List.getElem_mem hi
   have hbm:=List.getElem_mem hj'
   have vb:=DC hv
   have hf:=zH hz (hz.2.2.2 _ hcm) (hz.1.2 _ hbm) (vb.bb _ hbm) vb (vb.cb _ hcm).1 (vb.cb _ hcm).2.1 true
   have hbs:(f.bts[j]).name.size≤1000:=by
    have:f.bts[j]∈bts:=by rw[←D.b];exact hbm
    exact (hbt.2 _ this).1
   have key:∀(fl:Bool) (q:Int),p≤q→q≤p+10→∃(f':Fl) (p':Int),(∃ys,apn 19 aJ.d4 ([.i a,.i i,.b fl,.l bs,.i q,.b false]++f.e++f.bts[j].e++[.l [],.l [],.l []])=some (.again ys)∧lim (apn 12 aJ.d5) ys=some (.brk 6 [.l bs,.i p',.b false,.b f'.pack,.l (f'.bts.map Bt.e),.l (f'.svs.map Sv.e),.l (f'.cps.map Cp.e),.l [],.l [],.l []]))∧Dr bts svs pk f'∧p≤p'∧p'≤p+10*(d+1:Nat):=fun fl q q1 q2=>by
    obtain ⟨x,r1,r2⟩:=HA hb hl hbt hsv (.i a) D hi f.bts[j] hbs fl q
    obtain ⟨f',p',r3,r4,r5,r6⟩:=ih (i+1) x q (by omega) r2 (by omega) (by omega)
    exact ⟨f',p',⟨_,r1,r3⟩,r4,by omega,by omega⟩
   have key0:∃(f':Fl) (p':Int),(∃ys,some (Out.again (st5 (.i a) (i+1:Nat) bs (p+1) f))=some (.again ys)∧lim (apn 12 aJ.d5) ys=some (.brk 6 [.l bs,.i p',.b false,.b f'.pack,.l (f'.bts.map Bt.e),.l (f'.svs.map Sv.e),.l (f'.cps.map Cp.e),.l [],.l [],.l []]))∧Dr bts svs pk f'∧p≤p'∧p'≤p+10*(d+1:Nat):=by
    obtain ⟨f',p',r3,r4,r5,r6⟩:=ih (i+1) f (p+1) (by omega) D (by omega) (by omega)
    exact ⟨f',p',⟨_,rfl,r3⟩,r4,by omega,by omega⟩
   have stp:apn 12 aJ.d5 (st5 (.i a) i bs p f)=bif decide ((m:Int)<a) then (bif !((kY f f.cps[i] f.bts[j] true:Nat):Int)==0 then bif decide (((kY f f.cps[i] f.bts[j] true:Nat):Int)<6) then apn 19 aJ.d4 ([.i a,.i i,.b ((t:Int)==0),.l bs,.i (p+1+1+1),.b false]++f.e++f.bts[j].e++[.l [],.l [],.l []]) else apn 19 aJ.d4 ([.i a,.i i,.b false,.l bs,.i (p+1+1),.b false]++f.e++f.bts[j].e++[.l [],.l [],.l []]) else apn 19 aJ.d4 ([.i a,.i i,.b true,.l bs,.i (p+1+1),.b false]++f.e++f.bts[j].e++[.l [],.l [],.l []])) else some (.again (st5 (.i a) (i+1:Nat) bs (p+1) f)):=by
    simp only[Fl.e,Cp.e,Bt.e,jA,jB] at hf
    simp only[st5,Fl.e,apL,jC,jD,aJ.d5,C.I_i,C.L_l,jW,ltL hi,decide_true,jR,g1,call3,jI,g2,jX,ltL hj',jY,w1 hi hlc]
    rw[getD_map' Cp.e hi,getD_map' Bt.e hj']
    simp only[Cp.e,Bt.e,jC,jD,hf,ae,jI,C.I_i,g3,C.L_l]
    cases decide ((m:Int)<a)<;>cases (((kY f f.cps[i] f.bts[j] true:Nat):Int)==0)<;>cases decide (((kY f f.cps[i] f.bts[j] true:Nat):Int)<6)<;>rfl
   have fin:∃(f':Fl) (p':Int),(∃ys,apn 12 aJ.d5 (st5 (.i a) i bs p f)=some (.again ys)∧lim (apn 12 aJ.d5) ys=some (.brk 6 [.l bs,.i p',.b false,.b f'.pack,.l (f'.bts.map Bt.e),.l (f'.svs.map Sv.e),.l (f'.cps.map Cp.e),.l [],.l [],.l []]))∧Dr bts svs pk f'∧p≤p'∧p'≤p+10*(d+1:Nat):=by
    rw[stp]
    cases decide ((m:Int)<a) with
    |false=>exact key0
    |true=>
     cases (((kY f f.cps[i] f.bts[j] true:Nat):Int)==0) with
     |true=>exact key true _ (by omega) (by omega)
     |false=>
      cases decide (((kY f f.cps[i] f.bts[j] true:Nat):Int)<6) with
      |true=>exact key _ _ (by omega) (by omega)
      |false=>exact key false _ (by omega) (by omega)
   obtain ⟨f',p',⟨ys,r1,r2⟩,r3,r4,r5⟩:=fin
   exact ⟨f',p',by rw[aO r1,r2],r3,r4,r5⟩
  ·refine ⟨f,p,aY ?_,D,by omega,by omega⟩
   have:¬((i:Int)<(f.cps.length:Int)):=by omega
   simp only[st5,apL,jC,jD,aJ.d5,C.I_i,C.L_l,jW,this,decide_false,jS]
end
theorem E9 {p:Int} (h0:0≤p) (h1:p≤1125899906842624-70000):
  ∃(f:Fl) (p':Int),aJ [.l bs,.i p]=some (f.e++[.l bs,.i p'])∧f.Sz 1000∧(f.svs.length=4∧1≤f.bts.length)∧p≤p'∧p'≤p+30000:=by
 obtain ⟨c,hc,g1⟩:=aU hb hl h0 (show p≤1125899906842624 by omega) (n:=2) (by omega) (by omega)
 obtain ⟨n,hn,g2⟩:=aU hb hl (p:=p+1) (n:=5) (by omega) (by omega) (by omega) (by omega)
 have w2:w64 (1+(n:Int))=((n+1:Nat):Int):=by rw[aZ (by omega) (by omega)];omega
 obtain ⟨bts,p1,q1,q2,q3,q4,q5⟩:=Ih hb hl ((c:Int)==0) (n+1) (n+1) [] (p+1+1) (by simp) (by omega) (fun b hb=>by simp at hb) (by omega) (by omega)
 obtain ⟨svs,p2,r1,r2,r3,r4,r5⟩:=HH hb hl ((c:Int)==0) (bts.map Bt.e) 4 [] p1 (by simp) (fun b hb=>by simp at hb) (by omega) (by omega)
 obtain ⟨k,hk,g3⟩:=aU hb hl (p:=p2) (n:=4) (by omega) (by omega) (by omega) (by omega)
 obtain ⟨m,hm,g4⟩:=aU hb hl (p:=p2+1) (n:=14) (by omega) (by omega) (by omega) (by omega)
 have w3:w64 (1+(m:Int))=((m+1:Nat):Int):=by rw[aZ (by omega) (by omega)];omega
 have D0:Dr bts svs ((c:Int)==0) ⟨((c:Int)==0),bts,svs,[]⟩:=⟨rfl,rfl,rfl,by simp,fun c hc=>by simp at hc,.inl rfl⟩
 obtain ⟨f1,p3,t1,t2,t3,t4⟩:=HM hb hl ⟨by omega,q3⟩ ⟨by omega,r3⟩ (.i k) (m+1) _ (p2+1+1) D0 (by omega) (by omega) (by omega)
 obtain ⟨f2,p4,u1,u2,u3,u4⟩:=HW hb hl ⟨⟨by omega,by omega⟩,q3⟩ ⟨by omega,r3⟩ (k:Int) 60 0 f1 p3 (by omega) t2 (by omega) (by omega)
 refine ⟨f2,p4,?_,u2.szD ⟨by omega,q3⟩ ⟨by omega,r3⟩,⟨by rw[u2.s,r2],by rw[u2.b];omega⟩,by omega,by omega⟩
 simp only[List.map_nil,List.length_nil,Int.natCast_zero] at q1 r1 t1 u1
 simp only[st5,Int.natCast_zero] at u1
 simp only[aJ,aJ.d10,apL,jC,jD,g1,g2,call3,jI,C.I_i,w2,ah,q1,bg,aJ.d9,C.L_l,r1,aJ.d8,g3,g4,w3,t1,aJ.d7,u1,aJ.d6]
 rfl
end
end Go.Ev
namespace Go.Ev
theorem C2:∀(m n:Nat) (x acc:Str),n≤m→acc.size+n*x.size≤400→x.size≤800→n≤1000→
  ∃s:Str,lim (apn 3 eA.d1) [.s x,.i n,.s acc]=some (.brk 0 [.s s])∧s.size≤400:=by
 intro m
 induction m with
 |zero=>
  intro n x acc hn h1 h2 h3
  obtain rfl:n=0:=by omega
  exact ⟨acc,aY rfl,by omega⟩
 |succ m ih=>
  intro n x acc hn h1 h2 h3
  by_cases h0:n=0
  ·subst h0;exact ⟨acc,aY rfl,by omega⟩
  ·have c0:((n:Int)>0):=by omega
   have hx:x.size≤400:=by
    have:1*x.size≤n*x.size:=Nat.mul_le_mul_right _ (by omega)
    omega
   have hd:n=2*(n/2)+n%2:=by omega
   have w:w64 ((n:Int).tdiv 2)=((n/2:Nat):Int):=by
    rw[show (n:Int).tdiv 2=((n/2:Nat):Int) by rw[Int.tdiv_eq_ediv_of_nonneg (by omega)];omega,aZ (by omega) (by omega)]
   have t:(n:Int).tmod 2=((n%2:Nat):Int):=by rw[Int.tmod_eq_emod_of_nonneg (by omega)];omega
   have hs:(x++x).size=x.size+x.size:=ByteArray.size_append
   have hm:n*x.size=n/2*(x.size+x.size)+n%2*x.size:=by
    conv=>lhs;rw[hd]
    rw[Nat.add_mul,Nat.mul_add,Nat.mul_assoc,Nat.two_mul]
   have c1:x.size+x.size≤4294967296:=by omega
   have c2:acc.size+x.size≤4294967296:=by omega
   rcases Nat.mod_two_eq_zero_or_one n with e|e
   ·obtain ⟨s,g1,g2⟩:=ih (n/2) (x++x) acc (by omega) (by rw[hs];rw[e] at hm;omega) (by rw[hs];omega) (by omega)
    refine ⟨s,?_,g2⟩
    rw[←g1]
    apply aO
    simp only[apL,jC,jD,eA.d1,C.I_i,C.S_s,c0,decide_true,jR,t,e,w,c1,show (((0:Nat):Int)==1)=false from rfl,jS]
   ·obtain ⟨s,g1,g2⟩:=ih (n/2) (x++x) (acc++x) (by omega) (by rw[hs,ByteArray.size_append];rw[e] at hm;omega) (by rw[hs];omega) (by omega)
    refine ⟨s,?_,g2⟩
    rw[←g1]
    apply aO
    simp only[apL,jC,jD,eA.d1,C.I_i,C.S_s,c0,decide_true,jR,t,e,w,c1,c2,show (((1:Nat):Int)==1)=true from rfl]
theorem B3 (x:Str) (n:Nat) (h1:n≤300) (h2:x.size=1):∃s:Str,eA [.s x,.i n]=some [.s s]∧s.size≤400:=by
 have e0:(Go.Ev.bs #[]).size=0:=rfl
 obtain ⟨s,g1,g2⟩:=C2 n n x (Go.Ev.bs #[]) (by omega) (by rw[e0,h2];omega) (by omega) (by omega)
 refine ⟨s,?_,g2⟩
 simp only[eA,eA.d3,apL,jC,jD,g1,bg,eA.d2]
 rfl
section
variable {bs:List (List C)} (hb:BY bs) (hl:bs.length≤2000)
include hb hl
theorem FB (pk:Bool) (sv:List (List C)) (p:Int):∀(d:Nat) (L:List Bt),L.length+d=2→(∀b,b∈L→b.Sz 1000)→
  ∃L':List Bt,lim (apn 11 cC.d1) [.i L.length,.l bs,.i p,.b false,.b pk,.l [],.l [],.l [],.l (L.map Bt.e),.l sv,.l []]=some (.brk 0 [.l bs,.i p,.b false,.b pk,.l [],.l [],.l [],.l (L'.map Bt.e),.l sv,.l []])∧L'.length=2∧(∀b,b∈L'→b.Sz 1000):=by
 intro d
 induction d with
 |zero=>
  intro L hn hL
  refine ⟨L,aY ?_,by omega,hL⟩
  have:¬((L.length:Int)<2):=by omega
  simp only[apL,jC,jD,cC.d1,C.I_i,this,decide_false,jS,C.L_l]
 |succ d ih=>
  intro L hn hL
  obtain ⟨s,g2,hs⟩:=vG (n:=L.length) (by omega)
  have b1:(Go.Ev.bs #[98]).size=1:=rfl
  have c0:(L.length:Int)<2:=by omega
  have c1:1+s.size≤4294967296:=by omega
  have c2:L.length+1≤4294967296:=by omega
  have ww:w64 ((L.length:Int)+1)=(((L++[(⟨Go.Ev.bs #[98]++s,Go.Ev.bs #[101,97,115,116],[],30,30,false⟩:Bt)]).length:Nat):Int):=by rw[aZ (by omega) (by omega)];simp
  obtain ⟨L',q1,q2,q3⟩:=ih (L++[⟨Go.Ev.bs #[98]++s,Go.Ev.bs #[101,97,115,116],[],30,30,false⟩]) (by simp;omega) (fun x hx=>by
   rcases List.mem_append.1 hx with hx|hx
   ·exact hL x hx
   ·rw[List.mem_singleton.1 hx]
    exact ⟨by show (Go.Ev.bs #[98]++s).size≤1000;rw[ByteArray.size_append,b1];omega,by show (Go.Ev.bs #[101,97,115,116]).size≤1000;decide,by show 0≤1000;decide,fun m hm=>by simp at hm⟩)
  refine ⟨L',?_,q2,q3⟩
  rw[←q1]
  apply aO
  simp only[apL,jC,jD,cC.d1,C.I_i,c0,decide_true,jR,g2,ae,jI,C.S_s,b1,c1,C.L_l,jW,rows,List.length_cons,List.length_nil,Nat.zero_add,c2,ww,List.map_append,List.map_cons,List.map_nil,Bt.e,ah]
theorem FL (pk:Bool) (bt sv:List (List C)) (A:Nat) (hA:A≤10):∀(d:Nat) (L:List Cp) (p:Int),L.length+d=A+2→(∀s,s∈L→s.Sz 1000)→0≤p→p≤1125899906842624-1000+(0-10)*d→
  ∃(L':List Cp) (p':Int),lim (apn 12 cC.d2) [.i A,.i L.length,.l bs,.i p,.b false,.b pk,.l [],.l [],.l [],.l bt,.l sv,.l (L.map Cp.e)]=some (.brk 2 [.l bs,.i p',.b false,.b pk,.l [],.l [],.l [],.l bt,.l sv,.l (L'.map Cp.e)])∧L'.length≤20∧(∀s,s∈L'→s.Sz 1000)∧p≤p'∧p'≤p+10*d:=by
 intro d
 have w2:w64 ((A:Int)+2)=(A:Int)+2:=aZ (by omega) (by omega)
 induction d with
 |zero=>
  intro L p hn hL h0 h1
  refine ⟨L,p,aY ?_,by omega,hL,by omega,by omega⟩
  have:¬((L.length:Int)<(A:Int)+2):=by omega
  simp only[apL,jC,jD,cC.d2,C.I_i,w2,this,decide_false,jS,C.L_l]
 |succ d ih=>
  intro L p hn hL h0 h1
  obtain ⟨k,hk,g1⟩:=aU hb hl h0 (show p≤1125899906842624 by omega) (n:=3) (by omega) (by omega)
  obtain ⟨m,hm,g2⟩:=aU hb hl (p:=p+1) (n:=2) (by omega) (by omega) (by omega) (by omega)
  obtain ⟨t,ht,g3⟩:=aU hb hl (p:=p+1+1) (n:=3) (by omega) (by omega) (by omega) (by omega)
  obtain ⟨u,hu,g4⟩:=aU hb hl (p:=p+1+1+1) (n:=4) (by omega) (by omega) (by omega) (by omega)
  have mb:∀x:C,(ke (rows [[x]])).size=1:=fun _=>rfl
  have b1:(Go.Ev.bs #[99]).size=1:=rfl
  have c0:(L.length:Int)<(A:Int)+2:=by omega
  have c2:L.length+1≤4294967296:=by omega
  have c1:1+1≤4294967296:=by omega
  have w:w64 ((L.length:Int)+1)=(((L.length+1:Nat)):Int):=by rw[aZ (by omega) (by omega)];rfl
  have key:∀(c:Cp) (q:Int),c.Sz 1000→p≤q→q≤p+10→∃(L':List Cp) (p':Int),(∃ys,some (Out.again [.i A,.i (L.length+1:Nat),.l bs,.i q,.b false,.b pk,.l [],.l [],.l [],.l bt,.l sv,.l (L.map Cp.e++[c.e])])=some (.again ys)∧lim (apn 12 cC.d2) ys=some (.brk 2 [.l bs,.i p',.b false,.b pk,.l [],.l [],.l [],.l bt,.l sv,.l (L'.map Cp.e)]))∧L'.length≤20∧(∀s,s∈L'→s.Sz 1000)∧p≤p'∧p'≤p+10*(d+1:Nat):=fun c q hc q1 q2=>by
   obtain ⟨L',p',r1,r2,r3,r4,r5⟩:=ih (L++[c]) q (by simp;omega) (fun x hx=>by
    rcases List.mem_append.1 hx with hx|hx
    ·exact hL x hx
    ·rw[List.mem_singleton.1 hx];exact hc) (by omega) (by omega)
   rw[List.length_append,List.map_append] at r1
   exact ⟨L',p',⟨_,rfl,r1⟩,r2,r3,by omega,by omega⟩
  have csz:∀(y:C) (rk rm:Int) (fx a:Str),fx.size≤10→a.size≤10→(Cp.mk (Go.Ev.bs #[99]++ke (rows [[y]])) (Go.Ev.bs #[119,101,98]) rk 0 1 rm (Go.Ev.bs #[]) [] 0 (Go.Ev.bs #[]) fx a).Sz 1000:=fun y rk rm fx a h1 h2=>
   ⟨by show (Go.Ev.bs #[99]++ke (rows [[y]])).size≤1000;rw[ByteArray.size_append,b1,mb];decide,by show (Go.Ev.bs #[119,101,98]).size≤1000;decide,by show (Go.Ev.bs #[]).size≤1000;decide,by show (Go.Ev.bs #[]).size≤1000;decide,by show fx.size≤1000;omega,by show a.size≤1000;omega,by show 0≤1000;decide,fun x hx=>by simp at hx⟩
  have fin:∃(L':List Cp) (p':Int),(∃ys,apn 12 cC.d2 [.i A,.i L.length,.l bs,.i p,.b false,.b pk,.l [],.l [],.l [],.l bt,.l sv,.l (L.map Cp.e)]=some (.again ys)∧lim (apn 12 cC.d2) ys=some (.brk 2 [.l bs,.i p',.b false,.b pk,.l [],.l [],.l [],.l bt,.l sv,.l (L'.map Cp.e)]))∧L'.length≤20∧(∀s,s∈L'→s.Sz 1000)∧p≤p'∧p'≤p+10*(d+1:Nat):=by
   simp only[apL,jC,jD,cC.d2,C.I_i,w2,c0,decide_true,jR,C.S_s,b1,mb,c1,g1,g2,g3,g4,call3,jI,C.L_l,jW,w]
   cases decide ((L.length:Int)<(A:Int)) with
   |true=>
    simp only[jR,rows,List.length_cons,List.length_nil,Nat.zero_add,c2,decide_true]
    exact key (Cp.mk (Go.Ev.bs #[99]++ke (rows [[_]])) (Go.Ev.bs #[119,101,98]) k 0 1 m (Go.Ev.bs #[]) [] 0 (Go.Ev.bs #[]) (Go.Ev.bs #[]) (Go.Ev.bs #[98,48])) _ (csz _ _ _ _ _ (by decide) (by decide)) (by omega) (by omega)
   |false=>
    cases decide ((t:Int)>0) with
    |true=>
     simp only[jR,jS,rows,List.length_cons,List.length_nil,Nat.zero_add,c2,decide_true]
     exact key (Cp.mk (Go.Ev.bs #[99]++ke (rows [[_]])) (Go.Ev.bs #[119,101,98]) (w64 (1+(u:Int))) 0 1 m (Go.Ev.bs #[]) [] 0 (Go.Ev.bs #[]) (Go.Ev.bs #[98,48]) (Go.Ev.bs #[])) _ (csz _ _ _ _ _ (by decide) (by decide)) (by omega) (by omega)
    |false=>
     simp only[jR,jS,rows,List.length_cons,List.length_nil,Nat.zero_add,c2,decide_true]
     exact key (Cp.mk (Go.Ev.bs #[99]++ke (rows [[_]])) (Go.Ev.bs #[119,101,98]) k 0 1 m (Go.Ev.bs #[]) [] 0 (Go.Ev.bs #[]) (Go.Ev.bs #[]) (Go.Ev.bs #[])) _ (csz _ _ _ _ _ (by decide) (by decide)) (by omega) (by omega)
  obtain ⟨L',p',⟨ys,r1,r2⟩,r3⟩:=fin
  exact ⟨L',p',by rw[aO r1,r2],r3⟩
theorem FK {p:Int} (h0:0≤p) (h1:p≤1125899906842624-70000):
  ∃(f:Fl) (p':Int),cC [.l bs,.i p]=some [.b f.pack,.l bs,.i p',.l (f.bts.map Bt.e),.l (f.svs.map Sv.e),.l (f.cps.map Cp.e)]∧f.Sz 1000∧p≤p'∧p'≤p+30000:=by
 obtain ⟨c,hc,g1⟩:=aU hb hl h0 (show p≤1125899906842624 by omega) (n:=2) (by omega) (by omega)
 obtain ⟨n,hn,g2⟩:=aU hb hl (p:=p+1) (n:=9) (by omega) (by omega) (by omega) (by omega)
 obtain ⟨k,hk,g3⟩:=aU hb hl (p:=p+1+1) (n:=2) (by omega) (by omega) (by omega) (by omega)
 obtain ⟨bts,q1,q2,q3⟩:=FB hb hl ((c:Int)==0) [[.s (Go.Ev.bs #[119,101,98]),.i n]] (p+1+1) 2 [] (by simp) (fun b hb=>by simp at hb)
 have w2:w64 (10-(k:Int))=((10-k:Nat):Int):=by rw[aZ (by omega) (by omega)];omega
 obtain ⟨cps,p',r1,r2,r3,r4,r5⟩:=FL hb hl ((c:Int)==0) (bts.map Bt.e) [[.s (Go.Ev.bs #[119,101,98]),.i n]] (10-k) (by omega) (10-k+2) [] (p+1+1+1) (by simp) (fun b hb=>by simp at hb) (by omega) (by omega)
 refine ⟨⟨((c:Int)==0),bts,[⟨Go.Ev.bs #[119,101,98],n⟩],cps⟩,p',?_,⟨⟨by show bts.length≤1000;omega,q3⟩,⟨by show 1≤1000;decide,fun s hs=>?_⟩,by show cps.length≤1000;omega,r3⟩,by omega,by omega⟩
 ·simp only[List.map_nil,List.length_nil,Int.natCast_zero] at q1 r1
  simp only[cC,cC.d5,apL,jC,jD,g1,g2,g3,call3,jI,C.I_i,w2,ah,rows,q1,bg,cC.d4,C.L_l,r1,cC.d3]
  rfl
 ·rw[List.mem_singleton.1 hs];show (Go.Ev.bs #[119,101,98]).size≤1000;decide
end
end Go.Ev
set_option maxHeartbeats 2000000
namespace Go.Ev
abbrev spR (bs:List (List C)) (g:Fl) (p:Int):List C:=[.b g.pack,.l (g.cps.map Cp.e),.l bs,.i p,.l (g.bts.map Bt.e),.l (g.svs.map Sv.e)]
abbrev spN (bs:List (List C)) (g:Fl) (p:Int):R:=some (.nrm [.l bs,.i p,.b false,.b g.pack,.l (g.cps.map Cp.e),.l [],.l [],.l [],.l (g.bts.map Bt.e),.l (g.svs.map Sv.e)])
def Fl.Sq (g:Fl):Prop:=g.Sz 1048576∧g.cps.length≤1000
theorem GV {bs:List (List C)} {X:R} {a b:Int} (h:∃(g:Fl) (p:Int),X=spN bs g p∧g.Sq∧a≤p∧p≤b):∃(g:Fl) (p:Int),bl (bR X (apn 10 bL.d4))=some (spR bs g p)∧g.Sq∧a≤p∧p≤b:=by
 obtain ⟨g,p,h1,h2⟩:=h
 exact ⟨g,p,by rw[h1];rfl,h2⟩
theorem Bs (L:List Str) (hL:∀s,s∈L→s.size≤400) {x:Nat} (h:x<L.length):∃v:Str,((L.map sE).getD x []).getD 0 .nil=.s v∧v.size≤400:=
 ⟨L[x],by rw[getD_map' sE h];rfl,hL _ (List.getElem_mem h)⟩
theorem CZ (L:List Int) {x:Nat} (h:x<L.length):∃v:Int,((L.map fun n=>[C.i n]).getD x []).getD 0 .nil=.i v:=
 ⟨L[x],by rw[getD_map' (fun n=>[C.i n]) h];rfl⟩
theorem Iv (L:List (List Str)) (hL:∀s,s∈L→s.length≤20∧∀m,m∈s→m.size≤20) {x:Nat} (h:x<L.length):∃v:List Str,((L.map fun m=>[C.l (m.map sE)]).getD x []).getD 0 .nil=.l (v.map sE)∧v.length≤20∧∀m,m∈v→m.size≤20:=
 ⟨L[x],by rw[getD_map' (fun m=>[C.l (m.map sE)]) h];rfl,hL _ (List.getElem_mem h)⟩
theorem rb {α:Type} {e:α→List C} {l:List α} {k:Nat} (hk:k<l.length) {i:Nat} {v:List C} {b:α} (h:aK (e l[k]) i v=e b):(l.map e).set k (aK ((l.map e).getD k []) i v)=(l.set k b).map e:=by
 rw[getD_map' e hk,h,List.map_set]
theorem B7 {f:Fl} (hz:f.Sz 1000) {b:Bt} (hb:b.Sz 1048576) (k:Nat):({f with bts:=f.bts.set k b}:Fl).Sq:=
 ⟨⟨⟨by show (f.bts.set k b).length≤_;rw[List.length_set];exact hz.up.1.1,fun x hx=>(List.mem_or_eq_of_mem_set hx).elim (hz.up.1.2 x) (fun h=>h▸hb)⟩,hz.up.2⟩,hz.2.2.1⟩
theorem Ic {f:Fl} (hz:f.Sz 1000) {b:Sv} (hb:b.Sz 1048576) (k:Nat):({f with svs:=f.svs.set k b}:Fl).Sq:=
 ⟨⟨hz.up.1,⟨by show (f.svs.set k b).length≤_;rw[List.length_set];exact hz.up.2.1.1,fun x hx=>(List.mem_or_eq_of_mem_set hx).elim (hz.up.2.1.2 x) (fun h=>h▸hb)⟩,hz.up.2.2⟩,hz.2.2.1⟩
theorem sY {f:Fl} (hz:f.Sz 1000) {b:Cp} (hb:b.Sz 1048576) (k:Nat):({f with cps:=f.cps.set k b}:Fl).Sq:=
 ⟨⟨hz.up.1,hz.up.2.1,by show (f.cps.set k b).length≤_;rw[List.length_set];exact hz.up.2.2.1,fun x hx=>(List.mem_or_eq_of_mem_set hx).elim (hz.up.2.2.2 x) (fun h=>h▸hb)⟩,by show (f.cps.set k b).length≤_;rw[List.length_set];exact hz.2.2.1⟩
theorem A6 (l:List Cp):List.all (l.map Cp.e) (oH [.str,.str,(.int .i64),(.int .i64),(.int .i64),(.int .i64),.str,(.sl 122),(.int .i64),.str,.str,.str])=true:=by
 rw[List.all_eq_true]
 intro x hx
 obtain ⟨c,_,rfl⟩:=List.mem_map.1 hx
 rfl
theorem trS {l:List Cp} {n:Nat} (h:n<l.length) (x:List C) (y:Lk) (hy:y.e=x):
  ((l.map Cp.e).set n (aK ((l.map Cp.e).getD n []) 7 [.nil])).set n (aK (((l.map Cp.e).set n (aK ((l.map Cp.e).getD n []) 7 [.nil])).getD n []) 7 [.l ((((l.map Cp.e).getD n []).getD 7 .nil).L++[x])])=(l.set n {l[n] with likes:=l[n].likes++[y]}).map Cp.e:=by
 have h0:n<(l.map Cp.e).length:=by rw[jW];exact h
 rw[List.set_set]
 have h1:((l.map Cp.e).set n (aK ((l.map Cp.e).getD n []) 7 [.nil])).getD n []=aK ((l.map Cp.e).getD n []) 7 [.nil]:=by
  rw[List.getD_eq_getElem?_getD,List.getElem?_set_self h0];rfl
 rw[h1,getD_map' Cp.e h,List.map_set]
 congr 1
 simp only[Cp.e,aK,jC,jD,C.L_l,List.map_append,List.map_cons,List.map_nil,hy]
 rfl
section
variable {bs:List (List C)} (hb:BY bs) (hl:bs.length≤2000)
include hb hl
theorem HU (pk:Bool) (bt sv:List (List C)) (n B:Nat) (hB:B≤20):∀(d:Nat) (l:List Cp) (p:Int) (hn:n<l.length),B≤l[n].likes.length+d→d≤20→(∀c,c∈l→c.Sz 1048576)→0≤p→p≤1125899906842624-1000+(0-10)*d→
  ∃(l':List Cp) (p':Int),lim (apn 12 bL.d1) [.i n,.i B,.l bs,.i p,.b false,.b pk,.l [],.l [],.l [],.l bt,.l sv,.l (l.map Cp.e)]=some (.brk 1 [.l bs,.i p',.b false,.b pk,.l [],.l [],.l [],.l bt,.l sv,.l (l'.map Cp.e)])∧l'.length=l.length∧(∀c,c∈l'→c.Sz 1048576)∧p≤p'∧p'≤p+10*d:=by
 intro d
 induction d with
 |zero=>
  intro l p hn hd hd2 hL h0 h1
  refine ⟨l,p,aY ?_,rfl,hL,by omega,by omega⟩
  have:¬((l[n].likes.length:Int)<(B:Int)):=by omega
  simp only[apL,jC,jD,bL.d1,C.I_i,C.L_l,jW,jY,ltL hn,jX,decide_true,jR]
  rw[getD_map' Cp.e hn]
  simp only[Cp.e,jC,jD,C.L_l,jW,this,decide_false,jS]
 |succ d ih=>
  intro l p hn hd hd2 hL h0 h1
  by_cases hlt:l[n].likes.length<B
  ·obtain ⟨k,hk,g1⟩:=aU hb hl h0 (show p≤1125899906842624 by omega) (n:=2) (by omega) (by omega)
   obtain ⟨m,hm,g2⟩:=aU hb hl (p:=p+1) (n:=2) (by omega) (by omega) (by omega) (by omega)
   have hc:=hL _ (List.getElem_mem hn)
   have he:Lk.e ⟨Go.Ev.bs #[],w64 (9+w64 ((k:Int)*(m:Int)))⟩=[.s (Go.Ev.bs #[]),.i (w64 (9+w64 ((k:Int)*(m:Int))))]:=rfl
   have ht:=trS hn _ _ he
   have hn':n<(l.set n {l[n] with likes:=l[n].likes++[⟨Go.Ev.bs #[],w64 (9+w64 ((k:Int)*(m:Int)))⟩]}).length:=by rw[List.length_set];exact hn
   obtain ⟨l',p',q1,q2,q3,q4,q5⟩:=ih (l.set n {l[n] with likes:=l[n].likes++[⟨Go.Ev.bs #[],w64 (9+w64 ((k:Int)*(m:Int)))⟩]}) (p+1+1) hn' (by rw[List.getElem_set_self];show B≤(l[n].likes++[_]).length+d;rw[List.length_append];simp only[List.length_cons,List.length_nil];omega) (by omega) (fun c hc'=>by
    rcases List.mem_or_eq_of_mem_set hc' with hc'|rfl
    ·exact hL c hc'
    ·refine ⟨hc.1,hc.2.1,hc.2.2.1,hc.2.2.2.1,hc.2.2.2.2.1,hc.2.2.2.2.2.1,?_,fun x hx=>?_⟩
     ·show (l[n].likes++[_]).length≤_
      rw[List.length_append];simp only[List.length_cons,List.length_nil];omega
     ·rcases List.mem_append.1 hx with hx|hx
      ·exact hc.2.2.2.2.2.2.2 x hx
      ·rw[List.mem_singleton.1 hx];show (Go.Ev.bs #[]).size≤_;decide) (by omega) (by omega)
   refine ⟨l',p',?_,by rw[q2,List.length_set],q3,by omega,by omega⟩
   rw[←q1]
   apply aO
   have c1:(l[n].likes.length:Int)<(B:Int):=by omega
   have c2:l[n].likes.length+1≤4294967296:=by omega
   have hg7:(((l.map Cp.e).getD n []).getD 7 .nil).L.length=l[n].likes.length:=by rw[getD_map' Cp.e hn];simp[Cp.e]
   simp only[apL,jC,jD,bL.d1,C.I_i,C.L_l,jW,jY,ltL hn,jX,decide_true,jR,hg7,c1,g1,g2,call3,jI,rows,List.length_cons,List.length_nil,Nat.zero_add,c2,List.length_set,ht,A6]
  ·refine ⟨l,p,aY ?_,rfl,hL,by omega,by omega⟩
   have:¬((l[n].likes.length:Int)<(B:Int)):=by omega
   simp only[apL,jC,jD,bL.d1,C.I_i,C.L_l,jW,jY,ltL hn,jX,decide_true,jR]
   rw[getD_map' Cp.e hn]
   simp only[Cp.e,jC,jD,C.L_l,jW,this,decide_false,jS]
omit hb hl in
theorem H9 (pk:Bool) (bts:List Bt) (sv:List (List C)) {k:Nat} (hk:k<bts.length) (hz:bts[k].name.size≤1000) (p:Int) (B:Nat) (hB:B≤20):∀(d:Nat) (L:List Cp),L.length+d=B→(∀c,c∈L→c.Sz 1048576)→
  ∃L':List Cp,lim (apn 13 bL.d3) [.i k,.i B,.i L.length,.l bs,.i p,.b false,.b pk,.l [],.l [],.l [],.l (bts.map Bt.e),.l sv,.l (L.map Cp.e)]=some (.brk 3 [.l bs,.i p,.b false,.b pk,.l [],.l [],.l [],.l (bts.map Bt.e),.l sv,.l (L'.map Cp.e)])∧L'.length≤20∧(∀c,c∈L'→c.Sz 1048576):=by
 intro d
 induction d with
 |zero=>
  intro L hn hL
  refine ⟨L,aY ?_,by omega,hL⟩
  have:¬((L.length:Int)<(B:Int)):=by omega
  simp only[apL,jC,jD,bL.d3,C.I_i,this,decide_false,jS,C.L_l]
 |succ d ih=>
  intro L hn hL
  have mb:∀x:C,(ke (rows [[x]])).size=1:=fun _=>rfl
  have b1:(Go.Ev.bs #[99]).size=1:=rfl
  have c0:(L.length:Int)<(B:Int):=by omega
  have c1:1+1≤4294967296:=by omega
  have c2:L.length+1≤4294967296:=by omega
  have w:w64 ((L.length:Int)+1)=(((L.length+1:Nat)):Int):=by rw[aZ (by omega) (by omega)];rfl
  let c:Cp:=⟨Go.Ev.bs #[99]++ke (rows [[.i (IntKind.wrap .u8 (w64 (97+(L.length:Int))))]]),Go.Ev.bs #[119,101,98],0,0,0,0,Go.Ev.bs #[],[],0,Go.Ev.bs #[],Go.Ev.bs #[],bts[k].name⟩
  have hc:c.Sz 1048576:=⟨by show (Go.Ev.bs #[99]++ke (rows [[_]])).size≤_;rw[ByteArray.size_append,b1,mb];decide,by show (Go.Ev.bs #[119,101,98]).size≤_;decide,by show (Go.Ev.bs #[]).size≤_;decide,by show (Go.Ev.bs #[]).size≤_;decide,by show (Go.Ev.bs #[]).size≤_;decide,by show bts[k].name.size≤_;omega,by show 0≤_;decide,fun x hx=>by simp[c] at hx⟩
  obtain ⟨L',q1,q2,q3⟩:=ih (L++[c]) (by simp;omega) (fun x hx=>by
   rcases List.mem_append.1 hx with hx|hx
   ·exact hL x hx
   ·rw[List.mem_singleton.1 hx];exact hc)
  refine ⟨L',?_,q2,q3⟩
  rw[←q1]
  apply aO
  simp only[apL,jC,jD,bL.d3,C.I_i,c0,decide_true,jR,C.S_s,b1,mb,c1,C.L_l,jW,w,ltL hk,jX,jY,List.length_append,List.map_append]
  rw[getD_map' Bt.e hk]
  simp only[rows,List.length_cons,List.length_nil,Nat.zero_add,c2,decide_true,jR,Bt.e,jC,ah]
  rfl
theorem EJ {f:Fl} (hz:f.Sz 1000) (hs:f.svs.length=4) (hb1:1≤f.bts.length) {p:Int} (h0:0≤p) (h1:p≤1125899906842624-10000):
  ∃(g:Fl) (p':Int),bL (f.e++[.l bs,.i p])=some (spR bs g p')∧g.Sq∧p≤p'∧p'≤p+1000:=by
 have hF:=eL hz.up
 have hbl:=hz.1.1
 have hcl:=hz.2.2.1
 obtain ⟨k,hk,g1⟩:=aU hb hl h0 (show p≤1125899906842624 by omega) (n:=(f.bts.length:Int)) (by omega) (by omega)
 have hk':k<f.bts.length:=by omega
 have hbk:=(hz.1.2 _ (List.getElem_mem hk')).up
 have hbk0:=hz.1.2 _ (List.getElem_mem hk')
 have nb:((f.bts.length:Int)==0)=false:=by rw[beq_eq_false_iff_ne];omega
 simp only[Fl.e] at hF
 by_cases hc0:f.cps.length=0
 ·have g2:=IU (bs:=bs) (p:=p+1) (n:=(f.cps.length:Int)) (by omega) (by omega) (by omega)
  have nc:((f.cps.length:Int)==0)=true:=by rw[hc0];rfl
  refine ⟨⟨false,[],[⟨Go.Ev.bs #[],0⟩],[]⟩,p+1+1,?_,⟨⟨⟨by show 0≤_;decide,fun b hb=>by simp at hb⟩,⟨by show 1≤_;decide,fun s hs=>by rw[List.mem_singleton.1 hs];show (Go.Ev.bs #[]).size≤_;decide⟩,by show 0≤_;decide,fun b hb=>by simp at hb⟩,by show 0≤_;decide⟩,by omega,by omega⟩
  simp only[bL,bL.d5,Fl.e,jA,jB,apL,jC,jD,hF,call4,jI,C.L_l,jW,g1,g2,call3,nb,nc,ja,jR,jV]
  rfl
 obtain ⟨n,hn,g2⟩:=aU hb hl (p:=p+1) (n:=(f.cps.length:Int)) (by omega) (by omega) (by omega) (by omega)
 have hn':n<f.cps.length:=by omega
 have hcn:=(hz.2.2.2 _ (List.getElem_mem hn')).up
 have nc:((f.cps.length:Int)==0)=false:=by rw[beq_eq_false_iff_ne];omega
 obtain ⟨q,hq,g3⟩:=aU hb hl (p:=p+1+1) (n:=16) (by omega) (by omega) (by omega) (by omega)
 simp only[bL,bL.d5,Fl.e,jA,jB,apL,jC,jD,hF,call4,jI,C.L_l,C.I_i,jW,g1,g2,call3,nb,nc,ja,jR,jS]
 refine GV ?_
 rw[g3]
 simp only[jI,jC,jD,C.I_i]
 have hqq:q=0∨q=1∨q=2∨q=3∨q=4∨q=5∨q=6∨q=7∨q=8∨q=9∨q=10∨q=11∨q=12∨q=13∨q=14∨q=15:=by omega
 rcases hqq with rfl|rfl|rfl|rfl|rfl|rfl|rfl|rfl|rfl|rfl|rfl|rfl|rfl|rfl|rfl|rfl
 ·simp only[show ((((0:Nat):Int))==0)=true from rfl,jR,jS]
  obtain ⟨t,ht,g4⟩:=aU hb hl (p:=p+1+1+1) (n:=2) (by omega) (by omega) (by omega) (by omega)
  have w20:w64 (20+(t:Int))=((20+t:Nat):Int):=by rw[aZ (by omega) (by omega)];omega
  obtain ⟨w,gm,hw⟩:=B3 (Go.Ev.bs #[110]) (20+t) (by omega) rfl
  obtain ⟨x,hx,g5⟩:=aU hb hl (p:=p+1+1+1+1) (n:=4) (by omega) (by omega) (by omega) (by omega)
  obtain ⟨v,v1,v2⟩:=Bs [Go.Ev.bs #[],Go.Ev.bs #[65],Go.Ev.bs #[122,122],w] (by intro s hs;simp only[List.mem_cons,List.not_mem_nil,or_false] at hs;rcases hs with rfl|rfl|rfl|rfl<;>first|assumption|decide) (x:=x) (by simp only[List.length_cons,List.length_nil];omega)
  simp only[List.map_cons,List.map_nil,sE] at v1
  have l1:((x:Nat):Int)<((4:Nat):Int):=by omega
  have st:(f.bts.map Bt.e).set k (aK ((f.bts.map Bt.e).getD k []) 0 [.s v])=(f.bts.set k {f.bts[k] with name:=v}).map Bt.e:=rb hk' rfl
  simp only[g4,g5,gm,w20,call3,ae,jI,jC,jD,C.I_i,jX,decide_true,jR,rows,List.length_cons,List.length_nil,Nat.zero_add,Nat.reduceAdd,jY,ah,l1,v1,ltL hk',st]
  exact ⟨{f with bts:=f.bts.set k {f.bts[k] with name:=v}},p+1+1+1+1+1,rfl,B7 hz (b:= {f.bts[k] with name:=v}) ⟨Nat.le_trans v2 (by decide),hbk.2⟩ k,by omega,by omega⟩
 ·simp only[show ((((1:Nat):Int))==0)=false from rfl,show ((((1:Nat):Int))==1)=true from rfl,jR,jS]
  obtain ⟨x,hx,g4⟩:=aU hb hl (p:=p+1+1+1) (n:=2) (by omega) (by omega) (by omega) (by omega)
  obtain ⟨v,v1,v2⟩:=Bs [Go.Ev.bs #[],Go.Ev.bs #[120,32,121]] (by intro s hs;simp only[List.mem_cons,List.not_mem_nil,or_false] at hs;rcases hs with rfl|rfl<;>first|assumption|decide) (x:=x) (by simp only[List.length_cons,List.length_nil];omega)
  simp only[List.map_cons,List.map_nil,sE] at v1
  have l1:((x:Nat):Int)<((2:Nat):Int):=by omega
  have st:(f.bts.map Bt.e).set k (aK ((f.bts.map Bt.e).getD k []) 1 [.s v])=(f.bts.set k {f.bts[k] with zone:=v}).map Bt.e:=rb hk' rfl
  simp only[g4,call3,ae,jI,jC,jD,C.I_i,jX,decide_true,jR,rows,List.length_cons,List.length_nil,Nat.zero_add,Nat.reduceAdd,jY,ah,l1,v1,ltL hk',st]
  exact ⟨{f with bts:=f.bts.set k {f.bts[k] with zone:=v}},p+1+1+1+1,rfl,B7 hz (b:= {f.bts[k] with zone:=v}) ⟨hbk.1,Nat.le_trans v2 (by decide),hbk.2.2⟩ k,by omega,by omega⟩
 ·simp only[show ((((2:Nat):Int))==0)=false from rfl,show ((((2:Nat):Int))==1)=false from rfl,show ((((2:Nat):Int))==2)=true from rfl,jR,jS]
  obtain ⟨x,hx,g4⟩:=aU hb hl (p:=p+1+1+1) (n:=6) (by omega) (by omega) (by omega) (by omega)
  obtain ⟨v,v1,v2,v3⟩:=Iv [[Go.Ev.bs #[98],Go.Ev.bs #[97]],[Go.Ev.bs #[97],Go.Ev.bs #[97,61,98]],[Go.Ev.bs #[97,61,98],Go.Ev.bs #[97,61,99]],[Go.Ev.bs #[65]],[Go.Ev.bs #[97],Go.Ev.bs #[97,45,120],Go.Ev.bs #[97,61,98]],[Go.Ev.bs #[49],Go.Ev.bs #[50],Go.Ev.bs #[51],Go.Ev.bs #[52],Go.Ev.bs #[53],Go.Ev.bs #[54],Go.Ev.bs #[55],Go.Ev.bs #[56],Go.Ev.bs #[57],Go.Ev.bs #[97],Go.Ev.bs #[98]]] (by decide) (x:=x) (by simp only[List.length_cons,List.length_nil];omega)
  simp only[List.map_cons,List.map_nil,sE] at v1
  have l1:((x:Nat):Int)<((6:Nat):Int):=by omega
  have st:(f.bts.map Bt.e).set k (aK ((f.bts.map Bt.e).getD k []) 2 [.l (v.map sE)])=(f.bts.set k {f.bts[k] with marks:=v}).map Bt.e:=rb hk' rfl
  simp only[g4,call3,ae,jI,jC,jD,C.I_i,jX,decide_true,jR,rows,List.length_cons,List.length_nil,Nat.zero_add,Nat.reduceAdd,jY,ah,l1,v1,ltL hk',st]
  exact ⟨{f with bts:=f.bts.set k {f.bts[k] with marks:=v}},p+1+1+1+1,rfl,B7 hz (b:= {f.bts[k] with marks:=v}) ⟨hbk.1,hbk.2.1,Nat.le_trans v2 (by decide),fun m hm=>Nat.le_trans (v3 m hm) (by decide)⟩ k,by omega,by omega⟩
 ·simp only[show ((((3:Nat):Int))==0)=false from rfl,show ((((3:Nat):Int))==1)=false from rfl,show ((((3:Nat):Int))==2)=false from rfl,show ((((3:Nat):Int))==3)=true from rfl,jR,jS]
  obtain ⟨x,hx,g4⟩:=aU hb hl (p:=p+1+1+1) (n:=4) (by omega) (by omega) (by omega) (by omega)
  obtain ⟨v,v1⟩:=CZ [-1,0,1000,1001] (x:=x) (by simp only[List.length_cons,List.length_nil];omega)
  simp only[List.map_cons,List.map_nil] at v1
  have l1:((x:Nat):Int)<((4:Nat):Int):=by omega
  have st:(f.bts.map Bt.e).set k (aK ((f.bts.map Bt.e).getD k []) 3 [.i v])=(f.bts.set k {f.bts[k] with room:=v}).map Bt.e:=rb hk' rfl
  simp only[g4,call3,ae,jI,jC,jD,C.I_i,jX,decide_true,jR,rows,List.length_cons,List.length_nil,Nat.zero_add,Nat.reduceAdd,jY,ah,l1,v1,ltL hk',st]
  exact ⟨{f with bts:=f.bts.set k {f.bts[k] with room:=v}},p+1+1+1+1,rfl,B7 hz (b:= {f.bts[k] with room:=v}) hbk k,by omega,by omega⟩
 ·simp only[show ((((4:Nat):Int))==0)=false from rfl,show ((((4:Nat):Int))==1)=false from rfl,show ((((4:Nat):Int))==2)=false from rfl,show ((((4:Nat):Int))==3)=false from rfl,show ((((4:Nat):Int))==4)=true from rfl,jR,jS]
  have c1:f.bts.length+1≤4294967296:=by omega
  have hr:[((f.bts.map Bt.e).getD k []).getD 0 .nil,((f.bts.map Bt.e).getD k []).getD 1 .nil,((f.bts.map Bt.e).getD k []).getD 2 .nil,((f.bts.map Bt.e).getD k []).getD 3 .nil,((f.bts.map Bt.e).getD k []).getD 4 .nil,((f.bts.map Bt.e).getD k []).getD 5 .nil]=f.bts[k].e:=by rw[getD_map' Bt.e hk'];rfl
  simp only[call3,ae,jI,jC,jD,C.I_i,jX,decide_true,jR,rows,List.length_cons,List.length_nil,Nat.zero_add,Nat.reduceAdd,jY,ah,ltL hk',c1,hr]
  refine ⟨{f with bts:=f.bts++[f.bts[k]]},p+1+1+1,by simp only[spN,List.map_append,List.map_cons,List.map_nil],⟨⟨⟨by show (f.bts++[f.bts[k]]).length≤_;rw[List.length_append];simp only[List.length_cons,List.length_nil];omega,fun x hx=>?_⟩,hz.up.2⟩,hz.2.2.1⟩,by omega,by omega⟩
  rcases List.mem_append.1 hx with hx|hx
  ·exact hz.up.1.2 x hx
  ·rw[List.mem_singleton.1 hx];exact hbk
 ·simp only[show ((((5:Nat):Int))==0)=false from rfl,show ((((5:Nat):Int))==1)=false from rfl,show ((((5:Nat):Int))==2)=false from rfl,show ((((5:Nat):Int))==3)=false from rfl,show ((((5:Nat):Int))==4)=false from rfl,show ((((5:Nat):Int))==5)=true from rfl,jR,jS]
  obtain ⟨a,ha,g4⟩:=aU hb hl (p:=p+1+1+1) (n:=4) (by omega) (by omega) (by omega) (by omega)
  have ha':a<f.svs.length:=by omega
  have hsa:f.svs[a].name.size≤1048576:=hz.up.2.1.2 _ (List.getElem_mem ha')
  obtain ⟨x,hx,g5⟩:=aU hb hl (p:=p+1+1+1+1) (n:=3) (by omega) (by omega) (by omega) (by omega)
  obtain ⟨v,v1⟩:=CZ [-1,60,61] (x:=x) (by simp only[List.length_cons,List.length_nil];omega)
  simp only[List.map_cons,List.map_nil] at v1
  have l1:((x:Nat):Int)<((3:Nat):Int):=by omega
  have st:(f.svs.map Sv.e).set a (aK ((f.svs.map Sv.e).getD a []) 1 [.i v])=(f.svs.set a {f.svs[a] with spare:=v}).map Sv.e:=rb ha' rfl
  simp only[g4,g5,call3,ae,jI,jC,jD,C.I_i,jX,decide_true,jR,rows,List.length_cons,List.length_nil,Nat.zero_add,Nat.reduceAdd,jY,ah,l1,v1,ltL ha',st]
  exact ⟨{f with svs:=f.svs.set a {f.svs[a] with spare:=v}},p+1+1+1+1+1,rfl,Ic hz (b:= {f.svs[a] with spare:=v}) hsa a,by omega,by omega⟩
 ·simp only[show ((((6:Nat):Int))==0)=false from rfl,show ((((6:Nat):Int))==1)=false from rfl,show ((((6:Nat):Int))==2)=false from rfl,show ((((6:Nat):Int))==3)=false from rfl,show ((((6:Nat):Int))==4)=false from rfl,show ((((6:Nat):Int))==5)=false from rfl,show ((((6:Nat):Int))==6)=true from rfl,jR,jS]
  obtain ⟨x,hx,g4⟩:=aU hb hl (p:=p+1+1+1) (n:=3) (by omega) (by omega) (by omega) (by omega)
  obtain ⟨v,v1⟩:=CZ [-1,100,101] (x:=x) (by simp only[List.length_cons,List.length_nil];omega)
  simp only[List.map_cons,List.map_nil] at v1
  have l1:((x:Nat):Int)<((3:Nat):Int):=by omega
  have st:(f.cps.map Cp.e).set n (aK ((f.cps.map Cp.e).getD n []) 2 [.i v])=(f.cps.set n {f.cps[n] with rank:=v}).map Cp.e:=rb hn' rfl
  simp only[g4,call3,ae,jI,jC,jD,C.I_i,jX,decide_true,jR,rows,List.length_cons,List.length_nil,Nat.zero_add,Nat.reduceAdd,jY,ah,l1,v1,ltL hn',st]
  exact ⟨{f with cps:=f.cps.set n {f.cps[n] with rank:=v}},p+1+1+1+1,rfl,sY hz (b:= {f.cps[n] with rank:=v}) hcn n,by omega,by omega⟩
 ·simp only[show ((((7:Nat):Int))==0)=false from rfl,show ((((7:Nat):Int))==1)=false from rfl,show ((((7:Nat):Int))==2)=false from rfl,show ((((7:Nat):Int))==3)=false from rfl,show ((((7:Nat):Int))==4)=false from rfl,show ((((7:Nat):Int))==5)=false from rfl,show ((((7:Nat):Int))==6)=false from rfl,show ((((7:Nat):Int))==7)=true from rfl,jR,jS]
  obtain ⟨x,hx,g4⟩:=aU hb hl (p:=p+1+1+1) (n:=3) (by omega) (by omega) (by omega) (by omega)
  obtain ⟨v,v1⟩:=CZ [-1,1000000,1000001] (x:=x) (by simp only[List.length_cons,List.length_nil];omega)
  simp only[List.map_cons,List.map_nil] at v1
  have l1:((x:Nat):Int)<((3:Nat):Int):=by omega
  have st:(f.cps.map Cp.e).set n (aK ((f.cps.map Cp.e).getD n []) 3 [.i v])=(f.cps.set n {f.cps[n] with born:=v}).map Cp.e:=rb hn' rfl
  simp only[g4,call3,ae,jI,jC,jD,C.I_i,jX,decide_true,jR,rows,List.length_cons,List.length_nil,Nat.zero_add,Nat.reduceAdd,jY,ah,l1,v1,ltL hn',st]
  exact ⟨{f with cps:=f.cps.set n {f.cps[n] with born:=v}},p+1+1+1+1,rfl,sY hz (b:= {f.cps[n] with born:=v}) hcn n,by omega,by omega⟩
 ·simp only[show ((((8:Nat):Int))==0)=false from rfl,show ((((8:Nat):Int))==1)=false from rfl,show ((((8:Nat):Int))==2)=false from rfl,show ((((8:Nat):Int))==3)=false from rfl,show ((((8:Nat):Int))==4)=false from rfl,show ((((8:Nat):Int))==5)=false from rfl,show ((((8:Nat):Int))==6)=false from rfl,show ((((8:Nat):Int))==7)=false from rfl,show ((((8:Nat):Int))==8)=true from rfl,jR,jS]
  obtain ⟨x,hx,g4⟩:=aU hb hl (p:=p+1+1+1) (n:=3) (by omega) (by omega) (by omega) (by omega)
  obtain ⟨v,v1⟩:=CZ [-1,1000,1001] (x:=x) (by simp only[List.length_cons,List.length_nil];omega)
  simp only[List.map_cons,List.map_nil] at v1
  have l1:((x:Nat):Int)<((3:Nat):Int):=by omega
  have st:(f.cps.map Cp.e).set n (aK ((f.cps.map Cp.e).getD n []) 4 [.i v])=(f.cps.set n {f.cps[n] with room:=v}).map Cp.e:=rb hn' rfl
  simp only[g4,call3,ae,jI,jC,jD,C.I_i,jX,decide_true,jR,rows,List.length_cons,List.length_nil,Nat.zero_add,Nat.reduceAdd,jY,ah,l1,v1,ltL hn',st]
  exact ⟨{f with cps:=f.cps.set n {f.cps[n] with room:=v}},p+1+1+1+1,rfl,sY hz (b:= {f.cps[n] with room:=v}) hcn n,by omega,by omega⟩
 ·simp only[show ((((9:Nat):Int))==0)=false from rfl,show ((((9:Nat):Int))==1)=false from rfl,show ((((9:Nat):Int))==2)=false from rfl,show ((((9:Nat):Int))==3)=false from rfl,show ((((9:Nat):Int))==4)=false from rfl,show ((((9:Nat):Int))==5)=false from rfl,show ((((9:Nat):Int))==6)=false from rfl,show ((((9:Nat):Int))==7)=false from rfl,show ((((9:Nat):Int))==8)=false from rfl,show ((((9:Nat):Int))==9)=true from rfl,jR,jS]
  obtain ⟨w,gm,hw⟩:=B3 (Go.Ev.bs #[97]) 201 (by omega) rfl
  have gm':eA [.s (Go.Ev.bs #[97]),.i 201]=some [.s w]:=gm
  obtain ⟨x,hx,g4⟩:=aU hb hl (p:=p+1+1+1) (n:=4) (by omega) (by omega) (by omega) (by omega)
  obtain ⟨v,v1,v2⟩:=Bs [Go.Ev.bs #[97,32,98],Go.Ev.bs #[33],w,Go.Ev.bs #[120]] (by intro s hs;simp only[List.mem_cons,List.not_mem_nil,or_false] at hs;rcases hs with rfl|rfl|rfl|rfl<;>first|assumption|decide) (x:=x) (by simp only[List.length_cons,List.length_nil];omega)
  simp only[List.map_cons,List.map_nil,sE] at v1
  have l1:((x:Nat):Int)<((4:Nat):Int):=by omega
  have st:(f.cps.map Cp.e).set n (aK ((f.cps.map Cp.e).getD n []) 6 [.s v])=(f.cps.set n {f.cps[n] with sel:=v}).map Cp.e:=rb hn' rfl
  simp only[g4,gm',call3,ae,jI,jC,jD,C.I_i,jX,decide_true,jR,rows,List.length_cons,List.length_nil,Nat.zero_add,Nat.reduceAdd,jY,ah,l1,v1,ltL hn',st]
  exact ⟨{f with cps:=f.cps.set n {f.cps[n] with sel:=v}},p+1+1+1+1,rfl,sY hz (b:= {f.cps[n] with sel:=v}) ⟨hcn.1,hcn.2.1,Nat.le_trans v2 (by decide),hcn.2.2.2.1,hcn.2.2.2.2.1,hcn.2.2.2.2.2.1,hcn.2.2.2.2.2.2⟩ n,by omega,by omega⟩
 ·simp only[show ((((10:Nat):Int))==0)=false from rfl,show ((((10:Nat):Int))==1)=false from rfl,show ((((10:Nat):Int))==2)=false from rfl,show ((((10:Nat):Int))==3)=false from rfl,show ((((10:Nat):Int))==4)=false from rfl,show ((((10:Nat):Int))==5)=false from rfl,show ((((10:Nat):Int))==6)=false from rfl,show ((((10:Nat):Int))==7)=false from rfl,show ((((10:Nat):Int))==8)=false from rfl,show ((((10:Nat):Int))==9)=false from rfl,show ((((10:Nat):Int))==10)=true from rfl,jR,jS]
  obtain ⟨x,hx,g4⟩:=aU hb hl (p:=p+1+1+1) (n:=2) (by omega) (by omega) (by omega) (by omega)
  have w5:w64 (5+(x:Int))=((5+x:Nat):Int):=by rw[aZ (by omega) (by omega)];omega
  obtain ⟨l',p',q1,q2,q3,q4,q5⟩:=HU hb hl f.pack (f.bts.map Bt.e) (f.svs.map Sv.e) n (5+x) (by omega) 20 f.cps (p+1+1+1+1) hn' (by omega) (by omega) hz.up.2.2.2 (by omega) (by omega)
  simp only[g4,call3,ae,jI,jC,jD,C.I_i,jX,decide_true,jR,rows,List.length_cons,List.length_nil,Nat.zero_add,Nat.reduceAdd,jY,ah,w5,q1,bg,bL.d2,apL,C.L_l]
  exact ⟨{f with cps:=l'},p',rfl,⟨⟨hz.up.1,hz.up.2.1,by show l'.length≤_;omega,q3⟩,by show l'.length≤_;omega⟩,by omega,by omega⟩
 ·simp only[show ((((11:Nat):Int))==0)=false from rfl,show ((((11:Nat):Int))==1)=false from rfl,show ((((11:Nat):Int))==2)=false from rfl,show ((((11:Nat):Int))==3)=false from rfl,show ((((11:Nat):Int))==4)=false from rfl,show ((((11:Nat):Int))==5)=false from rfl,show ((((11:Nat):Int))==6)=false from rfl,show ((((11:Nat):Int))==7)=false from rfl,show ((((11:Nat):Int))==8)=false from rfl,show ((((11:Nat):Int))==9)=false from rfl,show ((((11:Nat):Int))==10)=false from rfl,show ((((11:Nat):Int))==11)=true from rfl,jR,jS]
  obtain ⟨x,hx,g4⟩:=aU hb hl (p:=p+1+1+1) (n:=2) (by omega) (by omega) (by omega) (by omega)
  obtain ⟨v,v1⟩:=CZ [-1,3] (x:=x) (by simp only[List.length_cons,List.length_nil];omega)
  simp only[List.map_cons,List.map_nil] at v1
  have l1:((x:Nat):Int)<((2:Nat):Int):=by omega
  have st:(f.cps.map Cp.e).set n (aK ((f.cps.map Cp.e).getD n []) 8 [.i v])=(f.cps.set n {f.cps[n] with apart:=v}).map Cp.e:=rb hn' rfl
  simp only[g4,call3,ae,jI,jC,jD,C.I_i,jX,decide_true,jR,rows,List.length_cons,List.length_nil,Nat.zero_add,Nat.reduceAdd,jY,ah,l1,v1,ltL hn',st]
  exact ⟨{f with cps:=f.cps.set n {f.cps[n] with apart:=v}},p+1+1+1+1,rfl,sY hz (b:= {f.cps[n] with apart:=v}) hcn n,by omega,by omega⟩
 ·simp only[show ((((12:Nat):Int))==0)=false from rfl,show ((((12:Nat):Int))==1)=false from rfl,show ((((12:Nat):Int))==2)=false from rfl,show ((((12:Nat):Int))==3)=false from rfl,show ((((12:Nat):Int))==4)=false from rfl,show ((((12:Nat):Int))==5)=false from rfl,show ((((12:Nat):Int))==6)=false from rfl,show ((((12:Nat):Int))==7)=false from rfl,show ((((12:Nat):Int))==8)=false from rfl,show ((((12:Nat):Int))==9)=false from rfl,show ((((12:Nat):Int))==10)=false from rfl,show ((((12:Nat):Int))==11)=false from rfl,show ((((12:Nat):Int))==12)=true from rfl,jR,jS]
  obtain ⟨x,hx,g4⟩:=aU hb hl (p:=p+1+1+1) (n:=3) (by omega) (by omega) (by omega) (by omega)
  obtain ⟨v,v1,v2⟩:=Bs [Go.Ev.bs #[103,111,110,101],Go.Ev.bs #[98,48],Go.Ev.bs #[98,49]] (by intro s hs;simp only[List.mem_cons,List.not_mem_nil,or_false] at hs;rcases hs with rfl|rfl|rfl<;>first|assumption|decide) (x:=x) (by simp only[List.length_cons,List.length_nil];omega)
  simp only[List.map_cons,List.map_nil,sE] at v1
  have l1:((x:Nat):Int)<((3:Nat):Int):=by omega
  have st:(f.cps.map Cp.e).set n (aK ((f.cps.map Cp.e).getD n []) 11 [.s v])=(f.cps.set n {f.cps[n] with at_:=v}).map Cp.e:=rb hn' rfl
  simp only[g4,call3,ae,jI,jC,jD,C.I_i,jX,decide_true,jR,rows,List.length_cons,List.length_nil,Nat.zero_add,Nat.reduceAdd,jY,ah,l1,v1,ltL hn',st]
  exact ⟨{f with cps:=f.cps.set n {f.cps[n] with at_:=v}},p+1+1+1+1,rfl,sY hz (b:= {f.cps[n] with at_:=v}) ⟨hcn.1,hcn.2.1,hcn.2.2.1,hcn.2.2.2.1,hcn.2.2.2.2.1,Nat.le_trans v2 (by decide),hcn.2.2.2.2.2.2⟩ n,by omega,by omega⟩
 ·simp only[show ((((13:Nat):Int))==0)=false from rfl,show ((((13:Nat):Int))==1)=false from rfl,show ((((13:Nat):Int))==2)=false from rfl,show ((((13:Nat):Int))==3)=false from rfl,show ((((13:Nat):Int))==4)=false from rfl,show ((((13:Nat):Int))==5)=false from rfl,show ((((13:Nat):Int))==6)=false from rfl,show ((((13:Nat):Int))==7)=false from rfl,show ((((13:Nat):Int))==8)=false from rfl,show ((((13:Nat):Int))==9)=false from rfl,show ((((13:Nat):Int))==10)=false from rfl,show ((((13:Nat):Int))==11)=false from rfl,show ((((13:Nat):Int))==12)=false from rfl,show ((((13:Nat):Int))==13)=true from rfl,jR,jS]
  obtain ⟨x,hx,g4⟩:=aU hb hl (p:=p+1+1+1) (n:=2) (by omega) (by omega) (by omega) (by omega)
  obtain ⟨v,v1,v2⟩:=Bs [Go.Ev.bs #[110,111,110,101],Go.Ev.bs #[]] (by intro s hs;simp only[List.mem_cons,List.not_mem_nil,or_false] at hs;rcases hs with rfl|rfl<;>first|assumption|decide) (x:=x) (by simp only[List.length_cons,List.length_nil];omega)
  simp only[List.map_cons,List.map_nil,sE] at v1
  have l1:((x:Nat):Int)<((2:Nat):Int):=by omega
  have st:(f.cps.map Cp.e).set n (aK ((f.cps.map Cp.e).getD n []) 1 [.s v])=(f.cps.set n {f.cps[n] with svc:=v}).map Cp.e:=rb hn' rfl
  simp only[g4,call3,ae,jI,jC,jD,C.I_i,jX,decide_true,jR,rows,List.length_cons,List.length_nil,Nat.zero_add,Nat.reduceAdd,jY,ah,l1,v1,ltL hn',st]
  exact ⟨{f with cps:=f.cps.set n {f.cps[n] with svc:=v}},p+1+1+1+1,rfl,sY hz (b:= {f.cps[n] with svc:=v}) ⟨hcn.1,Nat.le_trans v2 (by decide),hcn.2.2.1,hcn.2.2.2.1,hcn.2.2.2.2.1,hcn.2.2.2.2.2.1,hcn.2.2.2.2.2.2⟩ n,by omega,by omega⟩
 ·simp only[show ((((14:Nat):Int))==0)=false from rfl,show ((((14:Nat):Int))==1)=false from rfl,show ((((14:Nat):Int))==2)=false from rfl,show ((((14:Nat):Int))==3)=false from rfl,show ((((14:Nat):Int))==4)=false from rfl,show ((((14:Nat):Int))==5)=false from rfl,show ((((14:Nat):Int))==6)=false from rfl,show ((((14:Nat):Int))==7)=false from rfl,show ((((14:Nat):Int))==8)=false from rfl,show ((((14:Nat):Int))==9)=false from rfl,show ((((14:Nat):Int))==10)=false from rfl,show ((((14:Nat):Int))==11)=false from rfl,show ((((14:Nat):Int))==12)=false from rfl,show ((((14:Nat):Int))==13)=false from rfl,show ((((14:Nat):Int))==14)=true from rfl,jR,jS]
  obtain ⟨x,hx,g4⟩:=aU hb hl (p:=p+1+1+1) (n:=2) (by omega) (by omega) (by omega) (by omega)
  have w5:w64 (10+(x:Int))=((10+x:Nat):Int):=by rw[aZ (by omega) (by omega)];omega
  obtain ⟨l',q1,q2,q3⟩:=H9 (bs:=bs) f.pack f.bts (f.svs.map Sv.e) hk' hbk0.1 (p+1+1+1+1) (10+x) (by omega) (10+x) [] (by simp) (fun c hc=>by simp at hc)
  simp only[List.map_nil,List.length_nil,Int.natCast_zero] at q1
  simp only[g4,call3,ae,jI,jC,jD,C.I_i,jX,decide_true,jR,rows,List.length_cons,List.length_nil,Nat.zero_add,Nat.reduceAdd,jY,ah,w5,q1,bg,bL.d2,apL,C.L_l]
  exact ⟨{f with cps:=l'},_,rfl,⟨⟨hz.up.1,hz.up.2.1,by show l'.length≤_;omega,q3⟩,by show l'.length≤_;omega⟩,by omega,by omega⟩
 ·simp only[show ((((15:Nat):Int))==0)=false from rfl,show ((((15:Nat):Int))==1)=false from rfl,show ((((15:Nat):Int))==2)=false from rfl,show ((((15:Nat):Int))==3)=false from rfl,show ((((15:Nat):Int))==4)=false from rfl,show ((((15:Nat):Int))==5)=false from rfl,show ((((15:Nat):Int))==6)=false from rfl,show ((((15:Nat):Int))==7)=false from rfl,show ((((15:Nat):Int))==8)=false from rfl,show ((((15:Nat):Int))==9)=false from rfl,show ((((15:Nat):Int))==10)=false from rfl,show ((((15:Nat):Int))==11)=false from rfl,show ((((15:Nat):Int))==12)=false from rfl,show ((((15:Nat):Int))==13)=false from rfl,show ((((15:Nat):Int))==14)=false from rfl,jR,jS]
  obtain ⟨x,hx,g4⟩:=aU hb hl (p:=p+1+1+1) (n:=2) (by omega) (by omega) (by omega) (by omega)
  obtain ⟨v,v1,v2⟩:=Bs [Go.Ev.bs #[65],Go.Ev.bs #[119,101,98]] (by intro s hs;simp only[List.mem_cons,List.not_mem_nil,or_false] at hs;rcases hs with rfl|rfl<;>first|assumption|decide) (x:=x) (by simp only[List.length_cons,List.length_nil];omega)
  simp only[List.map_cons,List.map_nil,sE] at v1
  have l1:((x:Nat):Int)<((2:Nat):Int):=by omega
  obtain ⟨y,hy,g5⟩:=aU hb hl (p:=p+1+1+1+1) (n:=2) (by omega) (by omega) (by omega) (by omega)
  obtain ⟨u,u1,u2⟩:=Bs [Go.Ev.bs #[120,32,121],Go.Ev.bs #[98,48]] (by intro s hs;simp only[List.mem_cons,List.not_mem_nil,or_false] at hs;rcases hs with rfl|rfl<;>first|assumption|decide) (x:=y) (by simp only[List.length_cons,List.length_nil];omega)
  simp only[List.map_cons,List.map_nil,sE] at u1
  have l2:((y:Nat):Int)<((2:Nat):Int):=by omega
  have st:(f.cps.map Cp.e).set n (aK ((f.cps.map Cp.e).getD n []) 9 [.s v])=(f.cps.set n {f.cps[n] with near:=v}).map Cp.e:=rb hn' rfl
  have hn2:n<(f.cps.set n {f.cps[n] with near:=v}).length:=by rw[List.length_set];exact hn'
  have st2:((f.cps.set n {f.cps[n] with near:=v}).map Cp.e).set n (aK (((f.cps.set n {f.cps[n] with near:=v}).map Cp.e).getD n []) 10 [.s u])=(f.cps.set n {f.cps[n] with near:=v,fixed:=u}).map Cp.e:=by
   rw[rb (b:= {f.cps[n] with near:=v,fixed:=u}) hn2 (by rw[List.getElem_set_self];rfl),List.set_set]
  simp only[g4,g5,call3,ae,jI,jC,jD,C.I_i,jX,decide_true,jR,rows,List.length_cons,List.length_nil,Nat.zero_add,Nat.reduceAdd,jY,ah,l1,l2,v1,u1,ltL hn',st,jW,List.length_set,st2]
  exact ⟨{f with cps:=f.cps.set n {f.cps[n] with near:=v,fixed:=u}},p+1+1+1+1+1,rfl,sY hz (b:= {f.cps[n] with near:=v,fixed:=u}) ⟨hcn.1,hcn.2.1,hcn.2.2.1,Nat.le_trans v2 (by decide),Nat.le_trans u2 (by decide),hcn.2.2.2.2.2.1,hcn.2.2.2.2.2.2⟩ n,by omega,by omega⟩
end
end Go.Ev
namespace Go.Ev
section
variable {bs:List (List C)} (hb:BY bs) (hl:bs.length≤2000)
include hb hl
theorem EA {p:Int} (h0:0≤p) (h1:p≤1125899906842624-100000):
  ∃(f:Fl) (p':Int),nE [.l bs,.i p]=some (f.e++[.l bs,.i p'])∧f.Sz 1048576∧p≤p'∧p'≤p+50000:=by
 obtain ⟨k,hk,g1⟩:=aU hb hl h0 (show p≤1125899906842624 by omega) (n:=12) (by omega) (by omega)
 simp only[nE,nE.d1,apL,jC,jD,g1,call3,jI,C.I_i]
 cases hq:((k:Int)==0) with
 |true=>
  obtain ⟨f,p',q1,q2,q3,q4⟩:=FK hb hl (p:=p+1) (by omega) (by omega)
  refine ⟨f,p',?_,q2.up,by omega,by omega⟩
  simp only[jR,q1,call6,jI,jC,jD,C.L_l,jV]
  rfl
 |false=>
  obtain ⟨f,p1,q1,q2,q3,q4,q5⟩:=E9 hb hl (p:=p+1) (by omega) (by omega)
  obtain ⟨m,hm,g2⟩:=aU hb hl (p:=p1) (n:=16) (by omega) (by omega) (by omega) (by omega)
  have q1':aJ [.l bs,.i (p+1)]=some [.b f.pack,.l (f.bts.map Bt.e),.l (f.svs.map Sv.e),.l (f.cps.map Cp.e),.l bs,.i p1]:=q1
  simp only[jS,q1',call6,jI,jC,jD,C.L_l,g2,call3,C.I_i]
  cases hm0:((m:Int)==0) with
  |true=>
   obtain ⟨g,p2,r1,r2,r3,r4⟩:=EJ hb hl q2 q3.1 q3.2 (p:=p1+1) (by omega) (by omega)
   have r1':bL [.b f.pack,.l (f.bts.map Bt.e),.l (f.svs.map Sv.e),.l (f.cps.map Cp.e),.l bs,.i (p1+1)]=some (spR bs g p2):=r1
   refine ⟨g,p2,?_,r2.1,by omega,by omega⟩
   simp only[jR,r1',spR,call6,jI,jC,jD,C.L_l,jV]
   rfl
  |false=>
   refine ⟨f,p1+1,?_,q2.up,by omega,by omega⟩
   simp only[jS,jV]
   rfl
end
theorem FN {A:List (List C)} (hA:BY A):∃bs:List (List C),lG [.l A]=some [.l bs,.i 0]∧BY bs∧bs.length≤2000:=by
 simp only[lG,lG.d1,apL,jC,C.L_l]
 by_cases h:(A.length:Int)>2000
 ·have h2:(2000:Int)≤(A.length:Int):=by omega
  refine ⟨(A.take 2000).drop 0,?_,?_,?_⟩
  ·simp only[h,h2,decide_true,jR,jV]
  ·exact fun r hr=>hA r (List.mem_of_mem_take (List.mem_of_mem_drop hr))
  ·rw[List.drop_zero,List.length_take];omega
 ·refine ⟨A,?_,hA,by omega⟩
  simp only[h,decide_false,jS,jV]
end Go.Ev
set_option maxHeartbeats 1000000
namespace Go.Ev
end Go.Ev
namespace Go.Ev
section
variable {f:Fl} (h:VF f) {i:Nat} (hi:i<f.cps.length) (b:Bt)
include h hi
end
end Go.Ev
namespace Go.Ev
section
variable {bs:List (List C)} (hb:BY bs) (hl:bs.length≤2000)
include hb hl
theorem Fx (f:Fl) (hz:f.cps.length≤1048576) {p:Int} (h0:0≤p) (h1:p≤1125899906842624-100):
  ∃(s:Str) (p':Int),iq (f.e++[.l bs,.i p])=some [.s s,.l bs,.i p']∧(s=Go.Ev.bs #[]∨s=Go.Ev.bs #[103,111,110,101]∨∃k,∃hk:k<f.cps.length,s=f.cps[k].name)∧p≤p'∧p'≤p+10:=by
 have tb:∀x:Nat,x<2→∃v:Str,((rows [[C.s (Go.Ev.bs #[])],[C.s (Go.Ev.bs #[103,111,110,101])]]).getD x []).getD 0 .nil=.s v∧(v=Go.Ev.bs #[]∨v=Go.Ev.bs #[103,111,110,101]):=fun x hx=>by
  rcases x with _|_|x
  ·exact ⟨_,rfl,.inl rfl⟩
  ·exact ⟨_,rfl,.inr rfl⟩
  ·omega
 have t2:(rows [[C.s (Go.Ev.bs #[])],[C.s (Go.Ev.bs #[103,111,110,101])]]).length=2:=rfl
 simp only[iq,iq.d1,Fl.e,jA,jB,apL,jC,jD,C.L_l,jW]
 by_cases hc:f.cps.length=0
 ·have nc:((f.cps.length:Int)==0)=true:=by rw[hc];rfl
  obtain ⟨x,hx,g1⟩:=aU hb hl h0 (show p≤1125899906842624 by omega) (n:=2) (by omega) (by omega)
  obtain ⟨v,v1,v2⟩:=tb x (by omega)
  have l1:(x:Int)<((2:Nat):Int):=by omega
  refine ⟨v,p+1,?_,v2.elim .inl fun h=>.inr (.inl h),by omega,by omega⟩
  simp only[nc,jZ,jS,g1,call3,jI,jC,jD,C.I_i,jX,decide_true,jR,t2,l1,jY,v1,jV]
 ·have nc:((f.cps.length:Int)==0)=false:=by rw[beq_eq_false_iff_ne];omega
  obtain ⟨y,hy,g1⟩:=aU hb hl h0 (show p≤1125899906842624 by omega) (n:=16) (by omega) (by omega)
  simp only[nc,ja,jR,g1,call3,jI,jC,jD,C.I_i]
  cases hq:((y:Int)==0) with
  |true=>
   obtain ⟨x,hx,g2⟩:=aU hb hl (p:=p+1) (n:=2) (by omega) (by omega) (by omega) (by omega)
   obtain ⟨v,v1,v2⟩:=tb x (by omega)
   have l1:(x:Int)<((2:Nat):Int):=by omega
   refine ⟨v,p+1+1,?_,v2.elim .inl fun h=>.inr (.inl h),by omega,by omega⟩
   simp only[jR,g2,jI,jC,jD,C.I_i,jX,decide_true,t2,l1,jY,v1,jV]
  |false=>
   obtain ⟨x,hx,g2⟩:=aU hb hl (p:=p+1) (n:=(f.cps.length:Int)) (by omega) (by omega) (by omega) (by omega)
   have hx':x<f.cps.length:=by omega
   refine ⟨f.cps[x].name,p+1+1,?_,.inr (.inr ⟨x,hx',rfl⟩),by omega,by omega⟩
   simp only[jS,g2,jI,jC,jD,C.I_i,jX,decide_true,jR,ltL hx',jY]
   rw[getD_map' Cp.e hx']
   rfl
theorem Ei (f:Fl) (hz:f.bts.length≤1048576) {p:Int} (h0:0≤p) (h1:p≤1125899906842624-100):
  ∃(s:Str) (p':Int),gq (f.e++[.l bs,.i p])=some [.s s,.l bs,.i p']∧(s=Go.Ev.bs #[]∨s=Go.Ev.bs #[103,111,110,101]∨∃k,∃hk:k<f.bts.length,s=f.bts[k].name)∧p≤p'∧p'≤p+10:=by
 have tb:∀x:Nat,x<2→∃v:Str,((rows [[C.s (Go.Ev.bs #[])],[C.s (Go.Ev.bs #[103,111,110,101])]]).getD x []).getD 0 .nil=.s v∧(v=Go.Ev.bs #[]∨v=Go.Ev.bs #[103,111,110,101]):=fun x hx=>by
  rcases x with _|_|x
  ·exact ⟨_,rfl,.inl rfl⟩
  ·exact ⟨_,rfl,.inr rfl⟩
  ·omega
 have t2:(rows [[C.s (Go.Ev.bs #[])],[C.s (Go.Ev.bs #[103,111,110,101])]]).length=2:=rfl
 simp only[gq,gq.d1,Fl.e,jA,jB,apL,jC,jD,C.L_l,jW]
 by_cases hc:f.bts.length=0
 ·have nc:((f.bts.length:Int)==0)=true:=by rw[hc];rfl
  obtain ⟨x,hx,g1⟩:=aU hb hl h0 (show p≤1125899906842624 by omega) (n:=2) (by omega) (by omega)
  obtain ⟨v,v1,v2⟩:=tb x (by omega)
  have l1:(x:Int)<((2:Nat):Int):=by omega
  refine ⟨v,p+1,?_,v2.elim .inl fun h=>.inr (.inl h),by omega,by omega⟩
  simp only[nc,jZ,jS,g1,call3,jI,jC,jD,C.I_i,jX,decide_true,jR,t2,l1,jY,v1,jV]
 ·have nc:((f.bts.length:Int)==0)=false:=by rw[beq_eq_false_iff_ne];omega
  obtain ⟨y,hy,g1⟩:=aU hb hl h0 (show p≤1125899906842624 by omega) (n:=16) (by omega) (by omega)
  simp only[nc,ja,jR,g1,call3,jI,jC,jD,C.I_i]
  cases hq:((y:Int)==0) with
  |true=>
   obtain ⟨x,hx,g2⟩:=aU hb hl (p:=p+1) (n:=2) (by omega) (by omega) (by omega) (by omega)
   obtain ⟨v,v1,v2⟩:=tb x (by omega)
   have l1:(x:Int)<((2:Nat):Int):=by omega
   refine ⟨v,p+1+1,?_,v2.elim .inl fun h=>.inr (.inl h),by omega,by omega⟩
   simp only[jR,g2,jI,jC,jD,C.I_i,jX,decide_true,t2,l1,jY,v1,jV]
  |false=>
   obtain ⟨x,hx,g2⟩:=aU hb hl (p:=p+1) (n:=(f.bts.length:Int)) (by omega) (by omega) (by omega) (by omega)
   have hx':x<f.bts.length:=by omega
   refine ⟨f.bts[x].name,p+1+1,?_,.inr (.inr ⟨x,hx',rfl⟩),by omega,by omega⟩
   simp only[jS,g2,jI,jC,jD,C.I_i,jX,decide_true,jR,ltL hx',jY]
   rw[getD_map' Bt.e hx']
   rfl
end
end Go.Ev
namespace Go.Ev
theorem A5 (L:List Str) (hl:L.length≤1048576):ej [.l (L.map sE),.l (L.map sE)]=some [.b true]:=by
 have hb:L.length<big:=by simp only[big];omega
 have h:=ep (body:=apn 3 ej.d1) (S:=fun i=>[.l (L.map sE),.l (L.map sE),.i (i:Nat)]) (n:=L.length) (b:=0) (ys:=[])
  (fun i hi=>by
   simp only[apL,jC,jD,ej.d1,C.I_i,C.L_l,jW,ltL hi,jX,decide_true,jR,jY,w1 hi hb]
   rw[getD_map' sE hi]
   simp only[sE,jC,C.S_s,beq_self_eq_true,jZ,jS])
  (by simp[ej.d1]) L.length 0 rfl
 have e:((L.length:Int) !=(L.length:Int))=false:=by simp
 simp only[Int.natCast_zero] at h
 simp only[ej,ej.d3,apL,jC,jD,C.L_l,jW,e,jS,h,bg,ej.d2,jV]
end Go.Ev
namespace Go.Ev
end Go.Ev
namespace Go.Ev
end Go.Ev
namespace Go.Ev
section
variable {g:Fl} (h:VF g) {i:Nat} (hi:i<g.cps.length) {b:Bt} (hb:b∈g.bts) (hw:sEq g.cps[i].at_ (mkS [])=true) (hfit:kY g g.cps[i] b false=0) {j:Nat} (hj:j<g.cps.length) (hne:i≠j) {b':Bt} (hb':b'∈g.bts) (ha:sEq g.cps[j].at_ b'.name=true) (h0:kY g g.cps[j] b' true=0)
include h hi hb hw hfit hj hne hb' ha h0
end
end Go.Ev
namespace Go.Ev
structure PlI (f0 g:Fl) (n:Nat):Prop where
 b:g.bts=f0.bts
 s:g.svs=f0.svs
 p:g.pack=f0.pack
 l:g.cps.length=f0.cps.length
 c:∀i (h1:i<g.cps.length) (h2:i<f0.cps.length),g.cps[i].name=f0.cps[i].name∧(DG f0.cps[i]=false→g.cps[i]=f0.cps[i])
 n:(waits g).length+n=(waits f0).length
 r:FJ f0=[]→∀i (h1:i<g.cps.length),DG g.cps[i]=false→sEq g.cps[i].near g.cps[i].svc=false→∀b',b'∈g.bts→sEq g.cps[i].at_ b'.name=true→kY g g.cps[i] b' true=0
end Go.Ev
namespace Go.Ev
theorem FA (s:Str):(s.toList==s.toList)=true:=beq_self_eq_true _
theorem neI (n:Int):(n !=n)=false:=by simp
theorem yN {b:Bt} (h:b.marks.length≤1048576):jN (b.e++b.e)=some [.b true]:=by
 have hn:=A5 b.marks h
 simp only[jN,jN.d1,Bt.e,jA,jB,apL,jC,jD,C.S_s,C.I_i,C.B_b,FA,beq_self_eq_true,jR,hn,ae,jI,jV]
theorem Ao {c:Cp} (h:c.likes.length≤1048576):eY (c.e++c.e)=some [.b true]:=by
 have hb:c.likes.length<big:=by simp only[big];omega
 have k:=ep (body:=apn 25 eY.d1) (S:=fun i=>[C.i (i:Nat)]++c.e++c.e) (n:=c.likes.length) (b:=0) (ys:=[])
  (fun i hi=>by
   simp only[Cp.e,jA,jB,apL,jC,jD,eY.d1,C.I_i,C.L_l,jW,ltL hi,jX,decide_true,jR,jY,w1 hi hb]
   rw[getD_map' Lk.e hi]
   simp only[Lk.e,jC,jD,C.S_s,C.I_i,FA,beq_self_eq_true,Bool.and_self,jZ,jS])
  (by simp[eY.d1,Cp.e]) c.likes.length 0 rfl
 simp only[Cp.e,jA,jB,Int.natCast_zero] at k
 simp only[eY,eY.d3,Cp.e,jA,jB,apL,jC,jD,C.S_s,C.I_i,C.L_l,FA,neI,jZ,ja,jR,jS,k,bg,eY.d2,jV]
theorem rL {g:Fl} (hz:g.Sz 1048576):bB (g.e++g.e)=some [.b true]:=by
 have hb1:g.bts.length<big:=by have:=hz.1.1;simp only[big];omega
 have hb2:g.svs.length<big:=by have:=hz.2.1.1;simp only[big];omega
 have hb3:g.cps.length<big:=by have:=hz.2.2.1;simp only[big];omega
 have k1:=ep (body:=apn 9 bB.d1) (S:=fun i=>[C.i (i:Nat)]++g.e++g.e) (n:=g.bts.length) (b:=0) (ys:=g.e++g.e)
  (fun i hi=>by
   have hB:=yN (hz.1.2 _ (List.getElem_mem hi)).2.2.1
   simp only[Bt.e,jA,jB] at hB
   simp only[Fl.e,jA,jB,apL,jC,jD,bB.d1,C.I_i,C.L_l,jW,ltL hi,jX,decide_true,jR,jY,w1 hi hb1]
   rw[getD_map' Bt.e hi]
   simp only[Bt.e,jC,jD,hB,ae,jI,C.B_b,jZ,jS])
  (by simp[bB.d1,Fl.e]) g.bts.length 0 rfl
 have k2:=ep (body:=apn 9 bB.d2) (S:=fun i=>[C.i (i:Nat)]++g.e++g.e) (n:=g.svs.length) (b:=2) (ys:=g.e++g.e)
  (fun i hi=>by
   simp only[Fl.e,jA,jB,apL,jC,jD,bB.d2,C.I_i,C.L_l,jW,ltL hi,jX,decide_true,jR,jY,w1 hi hb2]
   rw[getD_map' Sv.e hi]
   simp only[Sv.e,jC,jD,C.S_s,C.I_i,FA,beq_self_eq_true,Bool.and_self,jZ,jS])
  (by simp[bB.d2,Fl.e]) g.svs.length 0 rfl
 have k3:=ep (body:=apn 9 bB.d3) (S:=fun i=>[C.i (i:Nat)]++g.e++g.e) (n:=g.cps.length) (b:=4) (ys:=[])
  (fun i hi=>by
   have hC:=Ao (hz.2.2.2 _ (List.getElem_mem hi)).2.2.2.2.2.2.1
   simp only[Cp.e,jA,jB] at hC
   simp only[Fl.e,jA,jB,apL,jC,jD,bB.d3,C.I_i,C.L_l,jW,ltL hi,jX,decide_true,jR,jY,w1 hi hb3]
   rw[getD_map' Cp.e hi]
   simp only[Cp.e,jC,jD,hC,ae,jI,C.B_b,jZ,jS])
  (by simp[bB.d3,Fl.e]) g.cps.length 0 rfl
 simp only[Fl.e,jA,jB,Int.natCast_zero] at k1 k2 k3
 simp only[bB,bB.d7,Fl.e,jA,jB,apL,jC,jD,C.B_b,C.L_l,jW,neI,beq_self_eq_true,jZ,ja,jR,jS,k1,bg,bB.d6,k2,bB.d5,k3,bB.d4,jV]
end Go.Ev
namespace Go.Ev
section
variable {f g:Fl} {n:Nat} (hz:f.Sz 1048576) (gz:g.Sz 1048576) (hg:bJ g=true) (P:PlI f g n) (hn:Hy g=none)
include hz gz hg P hn
end
end Go.Ev
namespace Go.Ev
section
variable {f:Fl} (hz:f.Sz 1048576)
include hz
end
end Go.Ev
namespace Go.Ev
structure Iy (f:Fl) (t:Cp) (j:Nat) (r:List Cp):Prop where
 hj:j≤f.cps.length
 lo:∀m (hm:m<f.cps.length),m<j→sLt f.cps[m].name t.name=true
 hi:∀hj:j<f.cps.length,sLt f.cps[j].name t.name=false
 hr:(r=f.cps.drop (j+1)∧∀hj:j<f.cps.length,sEq f.cps[j].name t.name=true)∨(r=f.cps.drop j∧∀hj:j<f.cps.length,sEq f.cps[j].name t.name=false)
section
variable {f:Fl} (h:VF f) {t:Cp} {j:Nat} {r:List Cp} (I:Iy f t j r)
include h I
end
end Go.Ev
namespace Go.Ev
end Go.Ev
namespace Go.Ev
end Go.Ev
namespace Go.Ev
end Go.Ev
namespace Go.Ev
end Go.Ev
namespace Go.Ev
def Cp.q (c:Cp) (bs:List (List C)) (p:Int):List C:=[.s c.name,.s c.svc,.i c.rank,.i c.born,.i c.room,.i c.hold,.s c.sel,.i c.apart,.s c.near,.s c.fixed,.s c.at_,.l bs,.i p,.l (c.likes.map Lk.e)]
section
variable {bs:List (List C)} (hb:BY bs) (hl:bs.length≤2000)
include hb hl
end
end Go.Ev
namespace Go.Ev
def Cp.fl (c:Cp):List C:=[.s c.name,.s c.svc,.i c.rank,.i c.born,.i c.room,.i c.hold,.s c.sel,.i c.apart,.s c.near,.s c.fixed,.s c.at_]
section
variable {f:Fl} (hz:f.Sz 1048576)
include hz
end
end Go.Ev
namespace Go.Ev
section
variable {bts:List Bt} {svs:List Sv} {pk:Bool} (hbt:bts.length≤12∧∀b,b∈bts→b.Sz 1000) (hsv:svs.length≤30∧∀s,s∈svs→s.Sz 1000)
include hbt hsv
end
section
variable {bs:List (List C)} (hb:BY bs) (hl:bs.length≤2000)
include hb hl
section
variable {bts:List Bt} {svs:List Sv} {pk:Bool} (hbt:bts.length≤12∧∀b,b∈bts→b.Sz 1000) (hsv:svs.length≤30∧∀s,s∈svs→s.Sz 1000)
include hbt hsv
end
section
variable {bts:List Bt} {svs:List Sv} {pk:Bool} (hbt:(1≤bts.length∧bts.length≤12)∧∀b,b∈bts→b.Sz 1000) (hsv:svs.length≤30∧∀s,s∈svs→s.Sz 1000)
include hbt hsv
end
end
end Go.Ev
namespace Go.Ev
structure Ti (f:Fl):Prop where
 z:f.Sz 1000
 n:f.cps.length≤60
 nb:f.bts.length≤12
 ns:f.svs.length≤30
 al:(1≤f.bts.length∧f.svs.length=4)∨f.bts=[]
theorem Ti.set {f:Fl} (T:Ti f) (i:Nat) {c:Cp} (hc:c.Sz 1000):Ti {f with cps:=f.cps.set i c}:=
 ⟨⟨T.z.1,T.z.2.1,by show (f.cps.set i c).length≤1000;rw[List.length_set];have:=T.n;omega,fun x hx=>(List.mem_or_eq_of_mem_set hx).elim (T.z.2.2.2 x) fun e=>e▸hc⟩,by show (f.cps.set i c).length≤60;rw[List.length_set];exact T.n,T.nb,T.ns,T.al⟩
section
variable {bs:List (List C)} (hb:BY bs) (hl:bs.length≤2000)
include hb hl
end
end Go.Ev
namespace Go.Ev
section
variable {bs:List (List C)} (hb:BY bs) (hl:bs.length≤2000)
include hb hl
end
end Go.Ev
namespace Go.Ev
section
variable {f:Fl} {s:Sp} (hz:f.Sz 1048576) (hs:s.Sz 1048576)
include hz hs
end
end Go.Ev
namespace Go.Ev
structure Evn where
 kd:Int
 b:Bt
 c:Cp
 nm:Str
 at_:Str
def Evn.e (e:Evn):List C:=.i e.kd::(e.b.e++e.c.e++[.s e.nm,.s e.at_])
theorem Evn.e_l (e:Evn):e.e=[.i e.kd,.s e.b.name,.s e.b.zone,.l (e.b.marks.map sE),.i e.b.room,.i e.b.hold,.b e.b.shut,.s e.c.name,.s e.c.svc,.i e.c.rank,.i e.c.born,.i e.c.room,.i e.c.hold,.s e.c.sel,.l (e.c.likes.map Lk.e),.i e.c.apart,.s e.c.near,.s e.c.fixed,.s e.c.at_,.s e.nm,.s e.at_]:=rfl
def Evn.Sz (K:Nat) (e:Evn):Prop:=e.b.Sz K∧e.c.Sz K∧e.nm.size≤K∧e.at_.size≤K
section
variable {α:Type} (nm:α→Str) (x:α)
def ir (l:List α):Nat:=(l.takeWhile fun y=>sLt (nm y) (nm x)).length
def nX (l:List α):List α:=match l.drop (ir nm x l) with|[]=>[]|y::r=>bif sEq (nm y) (nm x) then r else y::r
def j5 (l:List α):List α:=l.take (ir nm x l)++[x]++nX nm x l
theorem yJ (l:List α):ir nm x l≤l.length:=(List.takeWhile_sublist _).length_le
theorem yx (l:List α) {i:Nat} (h:i<ir nm x l) (hi:i<l.length):sLt (nm l[i]) (nm x)=true:=by
 have h1:(l.takeWhile fun y=>sLt (nm y) (nm x))[i]?=some l[i]:=by
  obtain ⟨t,ht⟩:=List.takeWhile_prefix (p:=fun y=>sLt (nm y) (nm x)) (l:=l)
  have h2:=congrArg (fun m=>m[i]?) ht
  simp only[List.getElem?_append_left h,List.getElem?_eq_getElem hi] at h2
  exact h2
 have h3:=List.mem_of_getElem? h1
 have:=List.all_takeWhile (p:=fun y=>sLt (nm y) (nm x)) (l:=l)
 exact List.all_eq_true.1 this _ h3
theorem B2 (l:List α) (h:ir nm x l<l.length):sLt (nm l[ir nm x l]) (nm x)=false:=by
 cases hq:sLt (nm l[ir nm x l]) (nm x) with
 |false=>rfl
 |true=>
  exfalso
  have key:∀(l:List α) (h:ir nm x l<l.length),sLt (nm l[ir nm x l]) (nm x)=true→False:=by
   intro l
   induction l with
   |nil=>intro h;simp at h
   |cons y r ih=>
    intro h hq
    cases hy:sLt (nm y) (nm x) with
    |false=>
     have:ir nm x (y::r)=0:=by simp[ir,hy]
     simp only[this,List.getElem_cons_zero] at hq
     rw[hy] at hq;cases hq
    |true=>
     have:ir nm x (y::r)=ir nm x r+1:=by simp[ir,hy]
     simp only[this,List.getElem_cons_succ] at hq
     exact ih (by rw[this] at h;simpa using h) hq
  exact key l h hq
theorem wv (l:List α):(nX nm x l).length+ir nm x l≤l.length:=by
 have:=yJ nm x l
 have hd:(l.drop (ir nm x l)).length=l.length-ir nm x l:=List.length_drop
 unfold nX
 split
 ·simp;omega
 ·rename_i y r h
  rw[h] at hd
  simp only[List.length_cons] at hd
  cases sEq (nm y) (nm x)<;>simp<;>omega
theorem Ar (l:List α):(j5 nm x l).length≤l.length+1:=by
 have:=wv nm x l
 simp only[j5,List.length_append,List.length_take,List.length_cons,List.length_nil];omega
theorem Aq (l:List α) (y:α) (h:y∈j5 nm x l):y∈l∨y=x:=by
 simp only[j5,List.mem_append,List.mem_singleton] at h
 rcases h with (h|h)|h
 ·exact .inl (List.mem_of_mem_take h)
 ·exact .inr h
 ·left
  unfold nX at h
  split at h
  ·simp at h
  ·rename_i z r hd
   apply List.mem_of_mem_drop (i:=ir nm x l)
   rw[hd]
   cases hz:sEq (nm z) (nm x) with
   |true=>rw[hz] at h;exact List.mem_cons_of_mem _ h
   |false=>rw[hz] at h;exact h
variable {l:List α} (hs:∀(i j:Nat) (hi:i<l.length) (hj:j<l.length),i<j→sLt (nm l[i]) (nm l[j])=true)
include hs
theorem yC {m:Nat} (hm:m<l.length) (he:sEq (nm l[m]) (nm x)=true):j5 nm x l=l.set m x:=by
 have en:=(fb _ _).1 he
 have hk:ir nm x l=m:=by
  rcases Nat.lt_trichotomy (ir nm x l) m with h|h|h
  ·have h1:=B2 nm x l (by omega)
   have h2:=hs _ _ (by omega) hm h
   rw[en,h1] at h2;cases h2
  ·exact h
  ·have h1:=yx nm x l h hm
   rw[en,uv] at h1;cases h1
 have hd:l.drop m=l[m]::l.drop (m+1):=List.drop_eq_getElem_cons hm
 unfold j5 nX
 rw[hk,hd]
 simp only[he,jR]
 rw[List.set_eq_take_append_cons_drop,if_pos hm,List.append_assoc]
 rfl
def gtP (y:α):Bool:=!(sLt (nm y) (nm x)||sEq (nm y) (nm x))
omit hs in
theorem wi (p:α→Bool):∀(l:List α) (n k:Nat) (hk:k<l.length),(∀i (hi:i<l.length),i<k→p l[i]=false)→p l[k]=true→dI p l n=((n+k:Nat):Int)
 |[],_,_,hk,_,_=>by simp at hk
 |y::r,n,0,_,_,h=>by
  have h:p y=true:=h
  simp[dI,h]
 |y::r,n,k+1,hk,h0,h=>by
  have hy:p y=false:=h0 0 (by simp) (by omega)
  have:=wi p r (n+1) k (by simpa using hk) (fun i hi hlt=>by have:=h0 (i+1) (by simpa using hi) (by omega);simpa using this) (by simpa using h)
  simp only[dI,hy]
  rw[jS,this]
  congr 1;omega
omit hs in
theorem s9 (p:α→Bool):∀(l:List α) (n:Nat),(∀i (hi:i<l.length),p l[i]=false)→dI p l n<0
 |[],_,_=>by simp[dI]
 |y::r,n,h=>by
  have hy:p y=false:=h 0 (by simp)
  have:=s9 p r (n+1) (fun i hi=>by have:=h (i+1) (by simpa using hi);simpa using this)
  simp only[dI,hy,jS]
  exact this
theorem ye (hne:∀i (hi:i<l.length),sEq (nm l[i]) (nm x)=false):
  (dI (gtP nm x) l 0<0∧j5 nm x l=l++[x])∨∃j,j<l.length∧dI (gtP nm x) l 0=(j:Nat)∧j5 nm x l=l.take j++[x]++l.drop j:=by
 have hT:nX nm x l=l.drop (ir nm x l):=by
  unfold nX
  split
  ·rename_i h;rw[h]
  ·rename_i y r h
   have hk:ir nm x l<l.length:=by
    rcases Nat.lt_or_ge (ir nm x l) l.length with h1|h1
    ·exact h1
    ·rw[List.drop_eq_nil_of_le h1] at h;cases h
   have hd:l.drop (ir nm x l)=l[ir nm x l]::l.drop (ir nm x l+1):=List.drop_eq_getElem_cons hk
   rw[hd] at h
   obtain ⟨rfl,rfl⟩:=List.cons.inj h
   rw[hne _ hk,jS,hd]
 rcases Nat.lt_or_ge (ir nm x l) l.length with hk|hk
 ·refine .inr ⟨ir nm x l,hk,?_,by rw[j5,hT]⟩
  rw[wi (gtP nm x) l 0 (ir nm x l) hk (fun i hi hlt=>by simp[gtP,yx nm x l hlt hi]) (by simp[gtP,B2 nm x l hk,hne _ hk]),Nat.zero_add]
 ·refine .inl ⟨s9 _ _ _ fun i hi=>by simp[gtP,yx nm x l (by omega) hi],?_⟩
  rw[j5,hT,List.take_of_length_le hk,List.drop_eq_nil_of_le hk,List.append_nil]
end
theorem y7 {α:Type} {l:List α} (p:α→Bool) {body:List C→R} {S:Nat→List C} {b:Nat} (hs:∀i (h:i<l.length),body (S i)=if p l[i]=true then some (.again (S (i+1))) else some (.brk b (S i))) (he:body (S l.length)=some (.brk b (S l.length))):
  ∀d i,i+d=l.length→lim body (S i)=some (.brk b (S (i+((l.drop i).takeWhile p).length)))
 |0,i,h=>by
  have:i=l.length:=by omega
  subst this
  rw[List.drop_length]
  exact aY he
 |d+1,i,h=>by
  have hi:i<l.length:=by omega
  rw[List.drop_eq_getElem_cons hi]
  by_cases hc:p l[i]=true
  ·rw[aO (by rw[hs i hi,if_pos hc]),y7 p hs he d (i+1) (by omega)]
   simp only[List.takeWhile,hc,List.length_cons]
   rw[Nat.add_right_comm,Nat.add_assoc]
  ·rw[aY (by rw[hs i hi,if_neg hc])]
   simp only[List.takeWhile,hc,List.length_nil,Nat.add_zero]
def km (nm:Str) (c:Cp):Cp:=bif sEq c.at_ nm then {c with at_:=mkS []} else c
def dG (f:Fl) (e:Evn):Fl×Bool:=
 bif e.kd==1 then ({f with bts:=j5 Bt.name e.b f.bts},true) else
 bif e.kd==2 then (bif decide (bIx f e.nm<0) then (f,false) else ({f with bts:=f.bts.take (bIx f e.nm).toNat++f.bts.drop ((bIx f e.nm).toNat+1),cps:=f.cps.map (km e.nm)},true)) else
 bif e.kd==3 then ({f with cps:=j5 Cp.name e.c f.cps},true) else
 bif e.kd==4 then (bif decide (cIx f e.nm<0) then (f,false) else ({f with cps:=f.cps.take (cIx f e.nm).toNat++f.cps.drop ((cIx f e.nm).toNat+1)},true)) else
 bif e.kd==5 then (bif decide (cIx f e.nm<0)||(!sEq e.at_ (mkS [])&&decide (bIx f e.at_<0)) then (f,false) else (match f.cps[(cIx f e.nm).toNat]? with|some c=>({f with cps:=f.cps.set (cIx f e.nm).toNat {c with at_:=e.at_}},true)|none=>(f,false))) else
 (f,true)
def fQ (f:Fl) (e:Evn):Fl×Int:=
 bif !bJ f then (fl0,1) else bif (dG f e).2&&!bJ (dG f e).1 then (fl0,2) else bif !(dG f e).2 then (fl0,3) else bif !within e.kd 1 5 then (fl0,4) else ((dG f e).1,0)
def wJ (r:Fl×Int):List C:=[.b r.1.pack,.i r.2,.l (r.1.bts.map Bt.e),.l (r.1.svs.map Sv.e),.l (r.1.cps.map Cp.e)]
abbrev lq (x:Fl×Bool):List C:=[.b x.1.pack,.b x.2,.l (x.1.bts.map Bt.e),.l (x.1.svs.map Sv.e),.l (x.1.cps.map Cp.e)]
theorem Av {α:Type} (nm:α→Str) (x:α) (E:α→List C) (l:List α) {K:Nat} (hK:K=ir nm x l):(j5 nm x l).map E=(l.map E).take K++[E x]++(nX nm x l).map E:=by
 subst hK
 simp only[j5,List.map_append,List.map_take,List.map_cons,List.map_nil]
section
variable {f:Fl} (hz:f.Sz 1048576) (hv:bJ f=true)
include hz hv
theorem HN {e:Evn} (he:e.Sz 1048576) (hk:e.kd=1):ak (f.e++e.e)=some (lq ({f with bts:=j5 Bt.name e.b f.bts},true)):=by
 have hF:=eL hz
 have hbo:=oG he.1.2.2.1
 have h1000:f.bts.length≤1048576:=hz.1.1
 have hlc:f.bts.length<big:=by simp only[big];omega
 have hL:=y7 (l:=f.bts) (fun y=>sLt y.name e.b.name) (b:=1) (body:=apn 30 ak.d1) (S:=fun i=>[C.i (i:Nat)]++e.e++[.b false,.b f.pack,.l [],.l [],.l [],.l (f.bts.map Bt.e),.l (f.svs.map Sv.e),.l (f.cps.map Cp.e)])
  (fun i hi=>by
   simp only[Evn.e,Bt.e,Cp.e,jA,jB,apL,jC,jD,ak.d1,C.I_i,C.L_l,C.S_s,jW,jY,ltL hi,decide_true,jR,jX,w1 hi hlc]
   rw[getD_map' Bt.e hi]
   simp only[Bt.e,jC,C.S_s]
   rw[show Op.bytesLess f.bts[i].name.toList e.b.name.toList=sLt f.bts[i].name e.b.name from rfl]
   cases sLt f.bts[i].name e.b.name<;>simp)
  (by simp[Evn.e,Bt.e,Cp.e,ak.d1])
  f.bts.length 0 (by omega)
 rw[Nat.zero_add,List.drop_zero] at hL
 generalize hj:(f.bts.takeWhile fun y=>sLt y.name e.b.name).length=j at hL
 have hjk:j=ir Bt.name e.b f.bts:=hj.symm
 have hjl:j≤f.bts.length:=by rw[hjk];exact yJ _ _ _
 have hmp:=Av Bt.name e.b Bt.e f.bts hjk
 have hTl:=wv Bt.name e.b f.bts
 rw[←hjk] at hTl
 have d2:∀r:List (List C),r=(nX Bt.name e.b f.bts).map Bt.e→apn 31 ak.d2 ([C.i (j:Nat),.l r]++e.e++[.b false,.b f.pack,.l (f.bts.map Bt.e),.l [],.l [],.l [],.l (f.svs.map Sv.e),.l (f.cps.map Cp.e)])=some (.ret (lq ({f with bts:=j5 Bt.name e.b f.bts},true))):=fun r hr=>by
  subst hr
  have b1:(j:Int)≤(f.bts.length:Int):=by omega
  have b2:min j f.bts.length≤4294967296:=by omega
  have b3:min j f.bts.length+1≤4294967296:=by omega
  have b4:min j f.bts.length+1+(nX Bt.name e.b f.bts).length≤4294967296:=by omega
  simp only[lq,hmp]
  simp only[Bt.e,Bt.o] at hbo
  simp only[Evn.e,Bt.e,Cp.e,jA,jB,apL,jC,jD,ak.d2,C.I_i,C.L_l,jW,jY,jX,decide_true,jR,hbo,call6,jI,b1,List.drop_zero,ah,List.length_take,b2,Nat.zero_add,List.length_nil,List.length_append,rows,List.length_cons,b3,b4]
 have d3:apn 30 ak.d3 ([C.i (j:Nat)]++e.e++[.b false,.b f.pack,.l [],.l [],.l [],.l (f.bts.map Bt.e),.l (f.svs.map Sv.e),.l (f.cps.map Cp.e)])=some (.ret (lq ({f with bts:=j5 Bt.name e.b f.bts},true))):=by
  have hb1:(j:Int)≤(f.bts.length:Int):=by omega
  have hdl:(f.bts.map Bt.e).drop j=(f.bts.drop j).map Bt.e:=(List.map_drop).symm
  have e0:((f.bts.map Bt.e).take f.bts.length).drop j=(f.bts.drop j).map Bt.e:=by
   rw[List.take_of_length_le (by rw[jW];omega),hdl]
  cases hd:f.bts.drop j with
  |nil=>
   rw[hd] at e0
   rw[←d2 [] (by simp only[nX,←hjk,hd,List.map_nil])]
   simp only[Evn.e,Bt.e,Cp.e,jA,jB,apL,jC,jD,ak.d3,C.I_i,C.L_l,C.S_s,jW,jX,decide_true,jR,hb1,Int.le_refl,jY,e0,List.map_nil,List.length_nil,jJ]
   rfl
  |cons y r=>
   rw[hd] at e0
   have t1:(((r.length+1:Nat):Int))>0:=by omega
   have t2:(0:Int)<((r.length+1:Nat):Int):=by omega
   have t3:(1:Int)≤((r.length+1:Nat):Int):=by omega
   have e0':=e0
   simp only[List.map_cons] at e0'
   have y0:(y.e).getD 0 .nil=.s y.name:=rfl
   cases hq:sEq y.name e.b.name with
   |true=>
    rw[←d2 (r.map Bt.e) (by simp only[nX,←hjk,hd,hq,jR])]
    have e2:(y.name.toList==e.b.name.toList)=true:=hq
    simp only[Evn.e,Cp.e,Bt.e,jA,jB,apL,jC,jD,ak.d3,C.I_i,C.L_l,C.S_s,jW,jX,decide_true,jR,hb1,Int.le_refl,e0',List.length_cons,e2,jJ,t1,t2,t3,jY,List.take_succ_cons,List.drop_succ_cons,List.drop_zero]
    rw[List.take_of_length_le (by rw[jW];exact Nat.le_refl _)]
   |false=>
    rw[←d2 ((y::r).map Bt.e) (by simp only[nX,←hjk,hd,hq,jS])]
    have e2:(y.name.toList==e.b.name.toList)=false:=hq
    simp only[Evn.e,Cp.e,Bt.e,jA,jB,apL,jC,jD,ak.d3,C.I_i,C.L_l,C.S_s,jW,jX,decide_true,jR,jS,hb1,Int.le_refl,jY,e0',List.length_cons,e2,jJ,t1,t2,List.map_cons]
 have hL':=hL
 simp only[ak,lq,Fl.e,Evn.e,Bt.e,Cp.e,jA,jB] at hF hL' d3⊢
 simp only[ak.d9,apL,jC,jD,hF,call4,jI,C.I_i,C.L_l,ah,hk]
 simp only[hk,Int.natCast_zero] at hL' d3
 simp only[show ((1:Int)==1)=true from rfl,jR]
 erw[hL']
 simp only[bg,d3]
 rfl
end
end Go.Ev
namespace Go.Ev
theorem BT {α:Type} (E:α→List C) {l:List α} {k K:Nat} (hk:k<l.length) (hl:l.length≤K) (hK:K≤1048576:=by omega):
  decide ((k:Int)≤((l.map E).length:Int))=true∧decide (([]:List (List C)).length+(List.drop 0 (List.take (k:Int).toNat (l.map E))).length≤4294967296)=true∧w64 ((k:Int)+1)=((k+1:Nat):Int)∧decide (((k+1:Nat):Int)≤((l.map E).length:Int))=true∧
  ([]++List.drop 0 (List.take (k:Int).toNat (l.map E)))++List.drop ((k+1:Nat):Int).toNat (List.take ((l.map E).length:Int).toNat (l.map E))=(l.take k++l.drop (k+1)).map E∧
  decide (([]++List.drop 0 (List.take (k:Int).toNat (l.map E))).length+(List.drop ((k+1:Nat):Int).toNat (List.take ((l.map E).length:Int).toNat (l.map E))).length≤4294967296)=true:=by
 have h1:([]++List.drop 0 (List.take (k:Int).toNat (l.map E)))++List.drop ((k+1:Nat):Int).toNat (List.take ((l.map E).length:Int).toNat (l.map E))=(l.take k++l.drop (k+1)).map E:=by
  rw[jY,jY,jY,List.take_length,List.map_append,List.map_take,List.map_drop]
  rfl
 have h2:=congrArg List.length h1
 rw[List.length_append] at h2
 refine ⟨by simp;omega,by simp;omega,w1 hk (by omega),by simp;omega,h1,?_⟩
 rw[h2]
 simp
 omega
section
variable {f:Fl} (hz:f.Sz 1048576) (hv:bJ f=true)
include hz hv
theorem HI {e:Evn} (he:e.Sz 1048576) (hk:e.kd=3):ak (f.e++e.e)=some (lq ({f with cps:=j5 Cp.name e.c f.cps},true)):=by
 have hF:=eL hz
 have hbo:=ml he.2.1.2.2.2.2.2.2.1
 have h1000:f.cps.length≤1048576:=hz.2.2.1
 have hlc:f.cps.length<big:=by simp only[big];omega
 have hL:=y7 (l:=f.cps) (fun y=>sLt y.name e.c.name) (b:=5) (body:=apn 30 ak.d6) (S:=fun i=>[C.i (i:Nat)]++e.e++[.b false,.b f.pack,.l [],.l [],.l [],.l (f.bts.map Bt.e),.l (f.svs.map Sv.e),.l (f.cps.map Cp.e)])
  (fun i hi=>by
   simp only[Evn.e,Bt.e,Cp.e,jA,jB,apL,jC,jD,ak.d6,C.I_i,C.L_l,C.S_s,jW,jY,ltL hi,decide_true,jR,jX,w1 hi hlc]
   rw[getD_map' Cp.e hi]
   simp only[Cp.e,jC,C.S_s]
   rw[show Op.bytesLess f.cps[i].name.toList e.c.name.toList=sLt f.cps[i].name e.c.name from rfl]
   cases sLt f.cps[i].name e.c.name<;>simp)
  (by simp[Evn.e,Bt.e,Cp.e,ak.d6])
  f.cps.length 0 (by omega)
 rw[Nat.zero_add,List.drop_zero] at hL
 generalize hj:(f.cps.takeWhile fun y=>sLt y.name e.c.name).length=j at hL
 have hjk:j=ir Cp.name e.c f.cps:=hj.symm
 have hjl:j≤f.cps.length:=by rw[hjk];exact yJ _ _ _
 have hmp:=Av Cp.name e.c Cp.e f.cps hjk
 have hTl:=wv Cp.name e.c f.cps
 rw[←hjk] at hTl
 have d2:∀r:List (List C),r=(nX Cp.name e.c f.cps).map Cp.e→apn 31 ak.d7 ([C.i (j:Nat),.l r]++e.e++[.b false,.b f.pack,.l (f.cps.map Cp.e),.l [],.l [],.l [],.l (f.bts.map Bt.e),.l (f.svs.map Sv.e)])=some (.ret (lq ({f with cps:=j5 Cp.name e.c f.cps},true))):=fun r hr=>by
  subst hr
  have b1:(j:Int)≤(f.cps.length:Int):=by omega
  have b2:min j f.cps.length≤4294967296:=by omega
  have b3:min j f.cps.length+1≤4294967296:=by omega
  have b4:min j f.cps.length+1+(nX Cp.name e.c f.cps).length≤4294967296:=by omega
  simp only[lq,hmp]
  simp only[Cp.e,Cp.o] at hbo
  simp only[Evn.e,Bt.e,Cp.e,jA,jB,apL,jC,jD,ak.d7,C.I_i,C.L_l,jW,jY,jX,decide_true,jR,hbo,call12,jI,b1,List.drop_zero,ah,List.length_take,b2,Nat.zero_add,List.length_nil,List.length_append,rows,List.length_cons,b3,b4]
 have d3:apn 30 ak.d8 ([C.i (j:Nat)]++e.e++[.b false,.b f.pack,.l [],.l [],.l [],.l (f.bts.map Bt.e),.l (f.svs.map Sv.e),.l (f.cps.map Cp.e)])=some (.ret (lq ({f with cps:=j5 Cp.name e.c f.cps},true))):=by
  have hb1:(j:Int)≤(f.cps.length:Int):=by omega
  have hdl:(f.cps.map Cp.e).drop j=(f.cps.drop j).map Cp.e:=(List.map_drop).symm
  have e0:((f.cps.map Cp.e).take f.cps.length).drop j=(f.cps.drop j).map Cp.e:=by
   rw[List.take_of_length_le (by rw[jW];omega),hdl]
  cases hd:f.cps.drop j with
  |nil=>
   rw[hd] at e0
   rw[←d2 [] (by simp only[nX,←hjk,hd,List.map_nil])]
   simp only[Evn.e,Bt.e,Cp.e,jA,jB,apL,jC,jD,ak.d8,C.I_i,C.L_l,C.S_s,jW,jX,decide_true,jR,hb1,Int.le_refl,jY,e0,List.map_nil,List.length_nil,jJ]
   rfl
  |cons y r=>
   rw[hd] at e0
   have t1:(((r.length+1:Nat):Int))>0:=by omega
   have t2:(0:Int)<((r.length+1:Nat):Int):=by omega
   have t3:(1:Int)≤((r.length+1:Nat):Int):=by omega
   have e0':=e0
   simp only[List.map_cons] at e0'
   have y0:(y.e).getD 0 .nil=.s y.name:=rfl
   cases hq:sEq y.name e.c.name with
   |true=>
    rw[←d2 (r.map Cp.e) (by simp only[nX,←hjk,hd,hq,jR])]
    have e2:(y.name.toList==e.c.name.toList)=true:=hq
    simp only[Evn.e,Bt.e,Cp.e,jA,jB,apL,jC,jD,ak.d8,C.I_i,C.L_l,C.S_s,jW,jX,decide_true,jR,hb1,Int.le_refl,e0',List.length_cons,e2,jJ,t1,t2,t3,jY,List.take_succ_cons,List.drop_succ_cons,List.drop_zero]
    rw[List.take_of_length_le (by rw[jW];exact Nat.le_refl _)]
   |false=>
    rw[←d2 ((y::r).map Cp.e) (by simp only[nX,←hjk,hd,hq,jS])]
    have e2:(y.name.toList==e.c.name.toList)=false:=hq
    simp only[Evn.e,Bt.e,Cp.e,jA,jB,apL,jC,jD,ak.d8,C.I_i,C.L_l,C.S_s,jW,jX,decide_true,jR,jS,hb1,Int.le_refl,jY,e0',List.length_cons,e2,jJ,t1,t2,List.map_cons]
 have hL':=hL
 simp only[ak,lq,Fl.e,Evn.e,Bt.e,Cp.e,jA,jB] at hF hL' d3⊢
 simp only[ak.d9,apL,jC,jD,hF,call4,jI,C.I_i,C.L_l,ah,hk]
 simp only[hk,Int.natCast_zero] at hL' d3
 simp only[show ((3:Int)==1)=false from rfl,show ((3:Int)==2)=false from rfl,show ((3:Int)==3)=true from rfl,jS,jR]
 erw[hL']
 simp only[bg,d3]
 rfl
theorem HL {e:Evn} (hk:e.kd=2):ak (f.e++e.e)=some (lq (dG f e)):=by
 have hF:=eL hz
 have hB:=gU f e.nm hz.1.1
 have h1000:f.bts.length≤1048576:=hz.1.1
 have hlc:f.cps.length<big:=by have:=hz.2.2.1;simp only[big];omega
 have hH:dG f e=bif decide (bIx f e.nm<0) then (f,false) else ({f with bts:=f.bts.take (bIx f e.nm).toNat++f.bts.drop ((bIx f e.nm).toNat+1),cps:=f.cps.map (km e.nm)},true):=by
  simp only[dG,hk];rfl
 rw[hH]
 rcases yS f e.nm with h|⟨k,hkl,h,-⟩
 ·simp only[h,decide_true,jR]
  simp only[ak,lq,Fl.e,Evn.e,Bt.e,Cp.e,jA,jB] at hF hB⊢
  simp only[ak.d9,apL,jC,jD,hF,hB,ae,call4,jI,C.I_i,C.L_l,ah,hk,h,decide_true,jR]
  rfl
 ·have hL:=ep (n:=f.cps.length) (b:=3) (ys:=[.b false,.b f.pack,.l [],.l [],.l [],.l ((f.bts.take k++f.bts.drop (k+1)).map Bt.e),.l (f.svs.map Sv.e),.l ((f.cps.map (km e.nm)).map Cp.e)]) (body:=apn 30 ak.d4) (S:=fun i=>[C.i (i:Nat)]++e.e++[.b false,.b f.pack,.l [],.l [],.l [],.l ((f.bts.take k++f.bts.drop (k+1)).map Bt.e),.l (f.svs.map Sv.e),.l ((mi (km e.nm) f.cps i).map Cp.e)])
   (fun i hi=>by
    have hu:=oh (km e.nm) f.cps i
    have hi':i<(mi (km e.nm) f.cps i).length:=by omega
    have hg:(mi (km e.nm) f.cps i)[i]=f.cps[i]:=by
     have:=u0 (km e.nm) hi
     rw[List.getElem?_eq_getElem hi'] at this
     exact Option.some.inj this
    have hm:(mi (km e.nm) f.cps i).map Cp.e=(mi (km e.nm) f.cps i).map Cp.e:=rfl
    have g0:=getD_map' Cp.e hi'
    rw[hg] at g0
    have g1:(f.cps[i].e).getD 11 .nil=.s f.cps[i].at_:=rfl
    have g2:aK f.cps[i].e 11 [.s (bs #[])]=({f.cps[i] with at_:=mkS []}:Cp).e:=by rw[eu];rfl
    have hS:=wA (km e.nm) hi
    have hM:=xT (km e.nm) hi
    simp only[Evn.e_l,jA,jB,apL,jC,jD,ak.d4,C.I_i,C.L_l,C.S_s,jW,hu,jY,ltL hi,decide_true,jR,jX,w1 hi hlc,g0,g1,g2]
    cases hq:sEq f.cps[i].at_ e.nm with
    |true=>
     have e2:(f.cps[i].at_.toList==e.nm.toList)=true:=hq
     simp only[e2,jR]
     rw[←hS,List.map_set]
     simp only[km,hq,jR]
    |false=>
     have e2:(f.cps[i].at_.toList==e.nm.toList)=false:=hq
     simp only[e2,jS]
     rw[hM (by simp only[km,hq,jS])])
   (by simp[Evn.e,Bt.e,Cp.e,ak.d4,oh,zv]) f.cps.length 0 (by omega)
  have hb3:¬((k:Nat):Int)<0:=by omega
  obtain ⟨q1,q2,q3,q4,q5,q6⟩:=BT Bt.e (K:=1048576) hkl hz.1.1
  simp only[h,hb3,decide_false,jS,jY]
  simp only[ak,lq,Fl.e,Evn.e,Bt.e,Cp.e,jA,jB] at hF hB hL⊢
  simp only[ak.d9,apL,jC,jD,hF,hB,ae,call4,jI,C.I_i,C.L_l,ah,hk,h,hb3,decide_false,jS]
  simp only[show ((2:Int)==1)=false from rfl,show ((2:Int)==2)=true from rfl,jS,jR,q1,q2,q3,q4,q5,q6,Int.le_refl,decide_true,jX]
  simp only[hk,mi,List.take_zero,List.map_nil,List.drop_zero,jB,Int.natCast_zero] at hL
  erw[hL]
  rfl
theorem Ir {e:Evn} (hk:e.kd=4):ak (f.e++e.e)=some (lq (dG f e)):=by
 have hF:=eL hz
 have hB:=pq f e.nm hz.2.2.1
 have hH:dG f e=bif decide (cIx f e.nm<0) then (f,false) else ({f with cps:=f.cps.take (cIx f e.nm).toNat++f.cps.drop ((cIx f e.nm).toNat+1)},true):=by
  simp only[dG,hk];rfl
 rw[hH]
 rcases qm f e.nm with h|⟨k,hkl,h,-⟩
 ·simp only[h,decide_true,jR]
  simp only[ak,lq,Fl.e,Evn.e_l,jA,jB] at hF hB⊢
  simp only[ak.d9,apL,jC,jD,hF,hB,ae,call4,jI,C.I_i,C.L_l,ah,hk,h,decide_true,jR]
  rfl
 ·have hb3:¬((k:Nat):Int)<0:=by omega
  obtain ⟨q1,q2,q3,q4,q5,q6⟩:=BT Cp.e (K:=1048576) hkl hz.2.2.1
  simp only[h,hb3,decide_false,jS,jY]
  simp only[ak,lq,Fl.e,Evn.e_l,jA,jB] at hF hB⊢
  simp only[ak.d9,apL,jC,jD,hF,hB,ae,call4,jI,C.I_i,C.L_l,ah,hk,h,hb3,decide_false,jS]
  simp only[show ((4:Int)==1)=false from rfl,show ((4:Int)==2)=false from rfl,show ((4:Int)==3)=false from rfl,show ((4:Int)==4)=true from rfl,jS,jR,q1,q2,q3,q4,q5,q6,Int.le_refl,decide_true,jX]
  rfl
theorem HB {e:Evn} (hk:e.kd=5):ak (f.e++e.e)=some (lq (dG f e)):=by
 have hF:=eL hz
 have hB:=pq f e.nm hz.2.2.1
 have hA:=gU f e.at_ hz.1.1
 have hH:dG f e=bif decide (cIx f e.nm<0)||(!sEq e.at_ (mkS [])&&decide (bIx f e.at_<0)) then (f,false) else (match f.cps[(cIx f e.nm).toNat]? with|some c=>({f with cps:=f.cps.set (cIx f e.nm).toNat {c with at_:=e.at_}},true)|none=>(f,false)):=by
  simp only[dG,hk];rfl
 have n5:((5:Int)==1)=false∧((5:Int)==2)=false∧((5:Int)==3)=false∧((5:Int)==4)=false∧((5:Int)==5)=true:=⟨rfl,rfl,rfl,rfl,rfl⟩
 rw[hH]
 rcases qm f e.nm with h|⟨k,hkl,h,-⟩
 ·simp only[h,decide_true,jR,Bool.true_or]
  simp only[ak,lq,Fl.e,Evn.e_l,jA,jB] at hF hB⊢
  simp only[ak.d9,apL,jC,jD,hF,hB,ae,call4,jI,C.I_i,C.L_l,ah,hk,h,decide_true,jR,n5,jS,jZ]
  rfl
 ·have hb3:¬((k:Nat):Int)<0:=by omega
  have q1:decide ((k:Int)<((f.cps.map Cp.e).length:Int))=true:=by simp;omega
  have g0:=getD_map' Cp.e hkl
  have g2:aK f.cps[k].e 11 [.s e.at_]=({f.cps[k] with at_:=e.at_}:Cp).e:=rfl
  have hst:(f.cps.map Cp.e).set k ({f.cps[k] with at_:=e.at_}:Cp).e=(f.cps.set k {f.cps[k] with at_:=e.at_}).map Cp.e:=(List.map_set).symm
  have hbn:(bs #[]).toList=(mkS []).toList:=rfl
  simp only[h,hb3,decide_false,Bool.false_or,jY,List.getElem?_eq_getElem hkl]
  simp only[ak,lq,Fl.e,Evn.e_l,jA,jB] at hF hB hA⊢
  simp only[ak.d9,apL,jC,jD,hF,hB,hA,ae,call4,jI,C.I_i,C.L_l,C.S_s,ah,hk,h,hb3,n5,decide_false,jS,jR,ja,hbn,q1,jY,g0,g2,hst,jX,decide_true]
  rw[show (e.at_.toList==(mkS []).toList)=sEq e.at_ (mkS []) from rfl]
  cases sEq e.at_ (mkS [])<;>cases decide (bIx f e.at_<0)<;>rfl
theorem HR {e:Evn} (hk:¬e.kd=1∧¬e.kd=2∧¬e.kd=3∧¬e.kd=4∧¬e.kd=5):ak (f.e++e.e)=some (lq (dG f e)):=by
 have hF:=eL hz
 have n5:(e.kd==1)=false∧(e.kd==2)=false∧(e.kd==3)=false∧(e.kd==4)=false∧(e.kd==5)=false:=by simp only[beq_eq_false_iff_ne];exact hk
 have hH:dG f e=(f,true):=by simp only[dG,n5,jS]
 rw[hH]
 simp only[ak,lq,Fl.e,Evn.e_l,jA,jB] at hF⊢
 simp only[ak.d9,apL,jC,jD,hF,ae,call4,jI,C.I_i,C.L_l,ah,n5,jS]
 rfl
theorem yw {e:Evn} (he:e.Sz 1048576):ak (f.e++e.e)=some (lq (dG f e)):=by
 by_cases h1:e.kd=1
 ·rw[HN hz hv he h1,show dG f e=({f with bts:=j5 Bt.name e.b f.bts},true) by simp only[dG,h1];rfl]
 by_cases h2:e.kd=2
 ·exact HL hz hv h2
 by_cases h3:e.kd=3
 ·rw[HI hz hv he h3,show dG f e=({f with cps:=j5 Cp.name e.c f.cps},true) by simp only[dG,h3];rfl]
 by_cases h4:e.kd=4
 ·exact Ir hz hv h4
 by_cases h5:e.kd=5
 ·exact HB hz hv h5
 exact HR hz hv ⟨h1,h2,h3,h4,h5⟩
end
theorem nk {f:Fl} (hz:f.Sz 1048576) (hv:bJ f=true) {e:Evn} (he:e.Sz 1048576):(dG f e).1.Sz 1048576:=by
 have hn:f.bts.length≤12∧f.svs.length≤30∧f.cps.length≤60:=by
  simp only[bJ,Bool.and_eq_true,decide_eq_true_eq] at hv
  exact ⟨hv.1,hv.2.1,hv.2.2.1⟩
 have hc:∀(l:List Cp),l.length≤61→(∀c,c∈l→c.Sz 1048576)→({f with cps:=l}:Fl).Sz 1048576:=fun l h1 h2=>⟨hz.1,hz.2.1,by simp only;omega,h2⟩
 have hset:∀(s:Str),s.size≤1048576→∀c:Cp,c.Sz 1048576→({c with at_:=s}:Cp).Sz 1048576:=fun s hs c h=>⟨h.1,h.2.1,h.2.2.1,h.2.2.2.1,h.2.2.2.2.1,hs,h.2.2.2.2.2.2⟩
 unfold dG
 cases e.kd==1 with
 |true=>
  refine ⟨⟨?_,fun b hb=>?_⟩,hz.2⟩
  ·have:=Ar Bt.name e.b f.bts;simp only[jR];omega
  ·rcases Aq Bt.name e.b f.bts b hb with h|rfl
   ·exact hz.1.2 b h
   ·exact he.1
 |false=>
 cases e.kd==2 with
 |true=>
  simp only[jR,jS]
  cases decide (bIx f e.nm<0) with
  |true=>exact hz
  |false=>
   refine ⟨⟨?_,fun b hb=>?_⟩,hz.2.1,?_,fun c hc=>?_⟩
   ·simp only[jS,List.length_append,List.length_take,List.length_drop];omega
   ·simp only[jS,List.mem_append] at hb
    exact hz.1.2 b (hb.elim List.mem_of_mem_take List.mem_of_mem_drop)
   ·simp only[jS,jW];omega
   ·simp only[jS,List.mem_map] at hc
    obtain ⟨x,hx,rfl⟩:=hc
    unfold km
    cases sEq x.at_ e.nm
    ·exact hz.2.2.2 x hx
    ·exact hset _ (by decide) x (hz.2.2.2 x hx)
 |false=>
 cases e.kd==3 with
 |true=>
  refine hc _ ?_ fun c hx=>?_
  ·have:=Ar Cp.name e.c f.cps;omega
  ·rcases Aq Cp.name e.c f.cps c hx with h|rfl
   ·exact hz.2.2.2 c h
   ·exact he.2.1
 |false=>
 cases e.kd==4 with
 |true=>
  simp only[jR,jS]
  cases decide (cIx f e.nm<0) with
  |true=>exact hz
  |false=>
   refine hc _ ?_ fun c hx=>?_
   ·simp only[List.length_append,List.length_take,List.length_drop];omega
   ·simp only[List.mem_append] at hx
    exact hz.2.2.2 c (hx.elim List.mem_of_mem_take List.mem_of_mem_drop)
 |false=>
 cases e.kd==5 with
 |true=>
  simp only[jR,jS]
  cases decide (cIx f e.nm<0)||(!sEq e.at_ (mkS [])&&decide (bIx f e.at_<0)) with
  |true=>exact hz
  |false=>
   simp only[jS]
   split
   ·rename_i c hc'
    refine hc _ (by rw[List.length_set];omega) fun x hx=>?_
    rcases List.mem_or_eq_of_mem_set hx with h|rfl
    ·exact hz.2.2.2 x h
    ·exact hset _ he.2.2.2 c (hz.2.2.2 c (List.mem_of_getElem? hc'))
   ·exact hz
 |false=>exact hz
theorem sb {f:Fl} (hz:f.Sz 1048576) {e:Evn} (he:e.Sz 1048576):bm (f.e++e.e)=some (wJ (fQ f e)):=by
 have hV:=iA hz
 unfold fQ
 cases hv:bJ f with
 |false=>
  rw[hv] at hV
  simp only[bm,Fl.e,Evn.e_l,jA,jB] at hV⊢
  simp only[bm.d2,apL,jC,jD,hV,ae,jI,C.B_b,ja,jR]
  rfl
 |true=>
  have hE:=yw hz hv he
  have hV':=iA (nk hz hv he)
  have hI:=eT e.kd 1 5
  rw[hv] at hV
  generalize dG f e=q at hE hV'⊢
  obtain ⟨g,d⟩:=q
  simp only[bm,lq,Fl.e,Evn.e_l,jA,jB] at hV hE hV'⊢
  simp only[bm.d2,bm.d1,apL,jC,jD,hV,hE,hV',hI,ae,call5,jI,C.B_b,C.L_l,jZ,jS,Bool.true_and]
  cases d with
  |false=>rfl
  |true=>
   cases hg:bJ g with
   |false=>rfl
   |true=>
    simp only[jZ,jR,jS,jJ,apL,jC,jD,bm.d1,hI,ae,jI,C.B_b,C.L_l,Bool.and_false]
    cases within e.kd 1 5<;>rfl
end Go.Ev
