/- Proved here: the law FnPilotAgeCard of the given program answers true at every input, and leaves the input as it was; no condition. This text: lemmas on the way (an evaluator of the program's code, sound once for all; the functions it prints; plain proofs on these). -/
import Derived.Test.YtkbmkhncjganfaaGreatDoorP4
set_option linter.all false
set_option autoImplicit false
set_option maxRecDepth 8000
namespace Go.Ev
section
variable {bs:List (List C)} (hb:BY bs) (hl:bs.length≤2000)
include hb hl
theorem Jx (pk:Bool):∀(d n:Nat) (L:List Bt) (p:Int),n=L.length+d→n≤10→(∀b,b∈L→b.Sz 1000)→0≤p→p≤1125899906842624-40000+(0-100)*d→
  ∃(L':List Bt) (p':Int),lim (jk aH.d1) [.i n,.i L.length,.l bs,.i p,.b false,.b pk,.l [],.l [],.l [],.l (L.map Bt.e),.l [],.l []]=some (.brk 0 [.l bs,.i p',.b false,.b pk,.l [],.l [],.l [],.l (L'.map Bt.e),.l [],.l []])∧L'.length=n∧(∀b,b∈L'→b.Sz 1000)∧p≤p'∧p'≤p+10*d:=by
 intro d
 induction d with
 |zero=>
  intro n L p hn hn10 hL h0 h1
  refine ⟨L,p,aQ ?_,by omega,hL,by omega,by omega⟩
  have:¬((L.length:Int)<(n:Int)):=by omega
  simp only[apL,jC,jD,aH.d1,C.I_i,this,decide_false,jS,C.L_l]
 |succ d ih=>
  intro n L p hn hn10 hL h0 h1
  obtain ⟨s,g2,hs⟩:=Dn (n:=L.length) (by omega)
  have b1:(Go.Ev.bs #[98]).size=1:=rfl
  obtain ⟨b,p1,g1,a1,a2,a3,a4⟩:=Fz hb hl (nm:=Go.Ev.bs #[98]++s) (by rw[ByteArray.size_append,b1];omega) (p:=p) h0 (by omega)
  have c0:(L.length:Int)<(n:Int):=by omega
  have c1:1+s.size≤4294967296:=by omega
  have c2:L.length+1≤4294967296:=by omega
  have ww:w64 ((L.length:Int)+1)=(((L++[b]).length:Nat):Int):=by rw[aP (by omega) (by omega)];simp
  obtain ⟨L',p',q1,q2,q3,q4,q5⟩:=ih n (L++[b]) p1 (by simp;omega) hn10 (fun x hx=>by
   rcases List.mem_append.1 hx with hx|hx
   ·exact hL x hx
   ·rw[List.mem_singleton.1 hx];exact a2) (by omega) (by omega)
  refine ⟨L',p',?_,q2,q3,by omega,by omega⟩
  rw[←q1]
  apply aG
  simp only[apL,jC,jD,aH.d1,C.I_i,c0,decide_true,jR,g2,ad,jI,C.S_s,b1,c1,g1,call8,C.L_l,jW,rows,List.length_cons,List.length_nil,Nat.zero_add,c2,ww,List.map_append,List.map_cons,List.map_nil,Bt.e]
theorem JJ (pk:Bool) (bt:List (List C)):∀(d:Nat) (L:List Sv) (p:Int),L.length+d=4→(∀s,s∈L→s.Sz 1000)→0≤p→p≤1125899906842624-40000+(0-100)*d→
  ∃(L':List Sv) (p':Int),lim (Aw aH.d2) [.i L.length,.l bs,.i p,.b false,.b pk,.l [],.l [],.l [],.l bt,.l (L.map Sv.e),.l []]=some (.brk 2 [.l bs,.i p',.b false,.b pk,.l [],.l [],.l [],.l bt,.l (L'.map Sv.e),.l []])∧L'.length=4∧(∀s,s∈L'→s.Sz 1000)∧p≤p'∧p'≤p+10*d:=by
 intro d
 induction d with
 |zero=>
  intro L p hn hL h0 h1
  refine ⟨L,p,aQ ?_,by omega,hL,by omega,by omega⟩
  have:¬((L.length:Int)<4):=by omega
  simp only[apL,jC,jD,aH.d2,C.I_i,this,decide_false,jS,C.L_l]
 |succ d ih=>
  intro L p hn hL h0 h1
  obtain ⟨k,hk,e⟩:=bH hb hl h0 (show p≤1125899906842624 by omega) (n:=5) (by omega) (by omega)
  have c0:(L.length:Int)<4:=by omega
  have c2:L.length+1≤4294967296:=by omega
  have hsv:∃sv:Str,((rows [[C.s (Go.Ev.bs #[99,97,99,104,101])],[C.s (Go.Ev.bs #[100,98])],[C.s (Go.Ev.bs #[106,111,98])],[C.s (Go.Ev.bs #[119,101,98])]]).getD L.length []).getD 0 .nil=.s sv∧sv.size≤10:=by
   generalize L.length=n at c0
   rcases n with _|_|_|_|n
   ·exact ⟨_,rfl,by decide⟩
   ·exact ⟨_,rfl,by decide⟩
   ·exact ⟨_,rfl,by decide⟩
   ·exact ⟨_,rfl,by decide⟩
   ·omega
  obtain ⟨sv,v1,v2⟩:=hsv
  have l1:(L.length:Int)<((rows [[C.s (Go.Ev.bs #[99,97,99,104,101])],[C.s (Go.Ev.bs #[100,98])],[C.s (Go.Ev.bs #[106,111,98])],[C.s (Go.Ev.bs #[119,101,98])]]).length:Int):=c0
  have ww:w64 ((L.length:Int)+1)=(((L++[(⟨sv,k⟩:Sv)]).length:Nat):Int):=by rw[aP (by omega) (by omega)];simp
  obtain ⟨L',p',q1,q2,q3,q4,q5⟩:=ih (L++[⟨sv,k⟩]) (p+1) (by simp;omega) (fun x hx=>by
   rcases List.mem_append.1 hx with hx|hx
   ·exact hL x hx
   ·rw[List.mem_singleton.1 hx];show sv.size≤1000;omega) (by omega) (by omega)
  refine ⟨L',p',?_,q2,q3,by omega,by omega⟩
  rw[←q1]
  apply aG
  simp only[apL,jC,jD,aH.d2,C.I_i,c0,l1,decide_true,jR,jX,jY,v1,e,call3,jI,C.L_l,jW]
  simp only[rows,List.length_cons,List.length_nil,Nat.zero_add,c2,ww,List.map_append,List.map_cons,List.map_nil,Sv.e,decide_true,jR]
section
variable {bts:List Bt} {svs:List Sv} {pk:Bool} (hbt:bts.length≤12∧∀b,b∈bts→b.Sz 1000) (hsv:svs.length≤30∧∀s,s∈svs→s.Sz 1000)
include hbt hsv
theorem JD (k:C):∀(n:Nat) (f:Fl) (p:Int),Dr bts svs pk f→n≤20→0≤p→p≤1125899906842624-35000+(0-1000)*n→
  ∃(f':Fl) (p':Int),lim (jk aH.d3) [k,.i n,.l bs,.i p,.b false,.b f.pack,.l (f.bts.map Bt.e),.l (f.svs.map Sv.e),.l (f.cps.map Cp.e),.l [],.l [],.l []]=some (.brk 4 [k,.l bs,.i p',.b false,.b f'.pack,.l (f'.bts.map Bt.e),.l (f'.svs.map Sv.e),.l (f'.cps.map Cp.e),.l [],.l [],.l []])∧Dr bts svs pk f'∧p≤p'∧p'≤p+1000*n:=by
 intro n
 induction n with
 |zero=>
  intro f p D hn h0 h1
  refine ⟨f,p,aQ ?_,D,by omega,by omega⟩
  rfl
 |succ n ih=>
  intro f p D hn h0 h1
  obtain ⟨c,p1,g1,a1,a2,a3⟩:=HE hb hl (n:=n+1) (by omega) (p:=p) h0 (by omega)
  obtain ⟨x,code,e1,e2⟩:=D.ev3 hbt hsv a1
  have c0:(((n+1:Nat):Int)>0):=by omega
  have ww:w64 (((n+1:Nat):Int)-1)=(n:Int):=by rw[aP (by omega) (by omega)];omega
  have stp:jk aH.d3 [k,.i (n+1:Nat),.l bs,.i p,.b false,.b f.pack,.l (f.bts.map Bt.e),.l (f.svs.map Sv.e),.l (f.cps.map Cp.e),.l [],.l [],.l []]=bif code==0 then some (.again [k,.i n,.l bs,.i p1,.b false,.b x.pack,.l (x.bts.map Bt.e),.l (x.svs.map Sv.e),.l (x.cps.map Cp.e),.l [],.l [],.l []]) else some (.again [k,.i n,.l bs,.i p1,.b false,.b f.pack,.l (f.bts.map Bt.e),.l (f.svs.map Sv.e),.l (f.cps.map Cp.e),.l [],.l [],.l []]):=by
   simp only[Fl.e,ev3,E0,Cp.e,jA,jB] at e1
   simp only[Cp.e,jA,jB] at g1
   simp only[apL,jC,jD,aH.d3,C.I_i,c0,decide_true,jR,g1,call14,jI,ao,e1,call5,C.L_l,ww]
  cases hq:(code==0) with
  |true=>
   obtain ⟨f',p',q1,q2,q3,q4⟩:=ih x p1 (e2 (by simpa using hq)) (by omega) (by omega) (by omega)
   refine ⟨f',p',?_,q2,by omega,by omega⟩
   rw[aG (by rw[stp,hq];rfl),q1]
  |false=>
   obtain ⟨f',p',q1,q2,q3,q4⟩:=ih f p1 D (by omega) (by omega) (by omega)
   refine ⟨f',p',?_,q2,by omega,by omega⟩
   rw[aG (by rw[stp,hq];rfl),q1]
end
end
end Go.Ev
namespace Go.Ev
section
variable {bs:List (List C)} (hb:BY bs) (hl:bs.length≤2000)
include hb hl
section
variable {bts:List Bt} {svs:List Sv} {pk:Bool} (hbt:(1≤bts.length∧bts.length≤12)∧∀b,b∈bts→b.Sz 1000) (hsv:svs.length≤30∧∀s,s∈svs→s.Sz 1000)
include hbt hsv
abbrev st5 (k:C) (i:Int) (bs:List (List C)) (p:Int) (f:Fl):List C:=[k,.i i,.l bs,.i p,.b false,.b f.pack,.l (f.bts.map Bt.e),.l (f.svs.map Sv.e),.l (f.cps.map Cp.e),.l [],.l [],.l []]
theorem JP (k:C) {f:Fl} (D:Dr bts svs pk f) {i:Nat} (hi:i<f.cps.length) (b:Bt) (hbb:b.name.size≤1000) (fl:Bool) (p:Int):
  ∃f',wk aH.d4 ([k,.i i,.b fl,.l bs,.i p,.b false]++f.e++b.e++[.l [],.l [],.l []])=some (.again (st5 k (i+1:Nat) bs p f'))∧Dr bts svs pk f':=by
 have hlc:f.cps.length<big:=by have:=D.n;simp only[big];omega
 obtain ⟨x,code,e1,e2⟩:=D.ev5 ⟨hbt.1.2,hbt.2⟩ hsv (nm:=f.cps[i].name) (at_:=b.name) hbb
 cases fl with
 |false=>
  refine ⟨f,?_,D⟩
  simp only[st5,Fl.e,Bt.e,jA,jB,apL,jC,jD,aH.d4,C.B_b,jS,C.I_i,w1 hi hlc,C.L_l]
 |true=>
  have stp:wk aH.d4 ([k,.i i,.b true,.l bs,.i p,.b false]++f.e++b.e++[.l [],.l [],.l []])=bif code==0 then some (.again (st5 k (i+1:Nat) bs p x)) else some (.again (st5 k (i+1:Nat) bs p f)):=by
   simp only[Fl.e,ev5,E0,jA,jB] at e1
   simp only[st5,Fl.e,Bt.e,jA,jB,apL,jC,jD,aH.d4,C.B_b,jR,C.I_i,w1 hi hlc,C.L_l,jW,ltL hi,jX,decide_true,jY]
   rw[getD_map' Cp.e hi]
   simp only[Cp.e,jC,jD,ao,e1,call5,jI,C.I_i,C.L_l]
  cases hq:(code==0) with
  |true=>exact ⟨x,by rw[stp,hq];rfl,e2 (by simpa using hq)⟩
  |false=>exact ⟨f,by rw[stp,hq];rfl,D⟩
theorem JS (a:Int):∀(d i:Nat) (f:Fl) (p:Int),60≤i+d→Dr bts svs pk f→0≤p→p≤1125899906842624-20000+(0-10)*d→
  ∃(f':Fl) (p':Int),lim (jk aH.d5) (st5 (.i a) i bs p f)=some (.brk 6 [.l bs,.i p',.b false,.b f'.pack,.l (f'.bts.map Bt.e),.l (f'.svs.map Sv.e),.l (f'.cps.map Cp.e),.l [],.l [],.l []])∧Dr bts svs pk f'∧p≤p'∧p'≤p+10*d:=by
 intro d
 induction d with
 |zero=>
  intro i f p hn D h0 h1
  refine ⟨f,p,aQ ?_,D,by omega,by omega⟩
  have:¬((i:Int)<(f.cps.length:Int)):=by have:=D.n;omega
  simp only[st5,apL,jC,jD,aH.d5,C.I_i,C.L_l,jW,this,decide_false,jS]
 |succ d ih=>
  intro i f p hn D h0 h1
  by_cases hi:i<f.cps.length
  ·have hlc:f.cps.length<big:=by have:=D.n;simp only[big];omega
   have hne:f.cps≠[]:=fun h=>by rw[h] at hi;simp at hi
   have hv:bP f=true:=D.v.resolve_left hne
   have hz:=(D.szD ⟨hbt.1.2,hbt.2⟩ hsv).up
   obtain ⟨m,hm,g1⟩:=bH hb hl h0 (show p≤1125899906842624 by omega) (n:=4) (by omega) (by omega)
   have hn1:f.bts.length=bts.length:=by rw[D.b]
   obtain ⟨j,hj,g2⟩:=bH hb hl (p:=p+1) (n:=(f.bts.length:Int)) (by omega) (by omega) (by omega) (by omega)
   have hj':j<f.bts.length:=by omega
   obtain ⟨t,ht,g3⟩:=bH hb hl (p:=p+1+1) (n:=8) (by omega) (by omega) (by omega) (by omega)
   have hcm:=List.getElem_mem hi
   have hbm:=List.getElem_mem hj'
   have vb:=gU hv
   have hf:=um hz (hz.2.2.2 _ hcm) (hz.1.2 _ hbm) (vb.bb _ hbm) vb (vb.cb _ hcm).1 (vb.cb _ hcm).2.1 true
   have hbs:(f.bts[j]).name.size≤1000:=by
    have:f.bts[j]∈bts:=by rw[←D.b];exact hbm
    exact (hbt.2 _ this).1
   have key:∀(fl:Bool) (q:Int),p≤q→q≤p+10→∃(f':Fl) (p':Int),(∃ys,wk aH.d4 ([.i a,.i i,.b fl,.l bs,.i q,.b false]++f.e++f.bts[j].e++[.l [],.l [],.l []])=some (.again ys)∧lim (jk aH.d5) ys=some (.brk 6 [.l bs,.i p',.b false,.b f'.pack,.l (f'.bts.map Bt.e),.l (f'.svs.map Sv.e),.l (f'.cps.map Cp.e),.l [],.l [],.l []]))∧Dr bts svs pk f'∧p≤p'∧p'≤p+10*(d+1:Nat):=fun fl q q1 q2=>by
    obtain ⟨x,r1,r2⟩:=JP hb hl hbt hsv (.i a) D hi f.bts[j] hbs fl q
    obtain ⟨f',p',r3,r4,r5,r6⟩:=ih (i+1) x q (by omega) r2 (by omega) (by omega)
    exact ⟨f',p',⟨_,r1,r3⟩,r4,by omega,by omega⟩
   have key0:∃(f':Fl) (p':Int),(∃ys,some (Out.again (st5 (.i a) (i+1:Nat) bs (p+1) f))=some (.again ys)∧lim (jk aH.d5) ys=some (.brk 6 [.l bs,.i p',.b false,.b f'.pack,.l (f'.bts.map Bt.e),.l (f'.svs.map Sv.e),.l (f'.cps.map Cp.e),.l [],.l [],.l []]))∧Dr bts svs pk f'∧p≤p'∧p'≤p+10*(d+1:Nat):=by
    obtain ⟨f',p',r3,r4,r5,r6⟩:=ih (i+1) f (p+1) (by omega) D (by omega) (by omega)
    exact ⟨f',p',⟨_,rfl,r3⟩,r4,by omega,by omega⟩
   have stp:jk aH.d5 (st5 (.i a) i bs p f)=bif decide ((m:Int)<a) then (bif !((cS f f.cps[i] f.bts[j] true:Nat):Int)==0 then bif decide (((cS f f.cps[i] f.bts[j] true:Nat):Int)<6) then wk aH.d4 ([.i a,.i i,.b ((t:Int)==0),.l bs,.i (p+1+1+1),.b false]++f.e++f.bts[j].e++[.l [],.l [],.l []]) else wk aH.d4 ([.i a,.i i,.b false,.l bs,.i (p+1+1),.b false]++f.e++f.bts[j].e++[.l [],.l [],.l []]) else wk aH.d4 ([.i a,.i i,.b true,.l bs,.i (p+1+1),.b false]++f.e++f.bts[j].e++[.l [],.l [],.l []])) else some (.again (st5 (.i a) (i+1:Nat) bs (p+1) f)):=by
    simp only[Fl.e,Cp.e,Bt.e,jA,jB] at hf
    simp only[st5,Fl.e,apL,jC,jD,aH.d5,C.I_i,C.L_l,jW,ltL hi,decide_true,jR,g1,call3,jI,g2,jX,ltL hj',jY,w1 hi hlc]
    rw[getD_map' Cp.e hi,getD_map' Bt.e hj']
    simp only[Cp.e,Bt.e,jC,jD,hf,ad,jI,C.I_i,g3,C.L_l]
    cases decide ((m:Int)<a)<;>cases (((cS f f.cps[i] f.bts[j] true:Nat):Int)==0)<;>cases decide (((cS f f.cps[i] f.bts[j] true:Nat):Int)<6)<;>rfl
   have fin:∃(f':Fl) (p':Int),(∃ys,jk aH.d5 (st5 (.i a) i bs p f)=some (.again ys)∧lim (jk aH.d5) ys=some (.brk 6 [.l bs,.i p',.b false,.b f'.pack,.l (f'.bts.map Bt.e),.l (f'.svs.map Sv.e),.l (f'.cps.map Cp.e),.l [],.l [],.l []]))∧Dr bts svs pk f'∧p≤p'∧p'≤p+10*(d+1:Nat):=by
    rw[stp]
    cases decide ((m:Int)<a) with
    |false=>exact key0
    |true=>
     cases (((cS f f.cps[i] f.bts[j] true:Nat):Int)==0) with
     |true=>exact key true _ (by omega) (by omega)
     |false=>
      cases decide (((cS f f.cps[i] f.bts[j] true:Nat):Int)<6) with
      |true=>exact key _ _ (by omega) (by omega)
      |false=>exact key false _ (by omega) (by omega)
   obtain ⟨f',p',⟨ys,r1,r2⟩,r3,r4,r5⟩:=fin
   exact ⟨f',p',by rw[aG r1,r2],r3,r4,r5⟩
  ·refine ⟨f,p,aQ ?_,D,by omega,by omega⟩
   have:¬((i:Int)<(f.cps.length:Int)):=by omega
   simp only[st5,apL,jC,jD,aH.d5,C.I_i,C.L_l,jW,this,decide_false,jS]
end
theorem Ic {p:Int} (h0:0≤p) (h1:p≤1125899906842624-70000):
  ∃(f:Fl) (p':Int),aH [.l bs,.i p]=some (f.e++[.l bs,.i p'])∧f.Sz 1000∧(f.svs.length=4∧1≤f.bts.length)∧p≤p'∧p'≤p+30000:=by
 obtain ⟨c,hc,g1⟩:=bH hb hl h0 (show p≤1125899906842624 by omega) (n:=2) (by omega) (by omega)
 obtain ⟨n,hn,g2⟩:=bH hb hl (p:=p+1) (n:=5) (by omega) (by omega) (by omega) (by omega)
 have w2:w64 (1+(n:Int))=((n+1:Nat):Int):=by rw[aP (by omega) (by omega)];omega
 obtain ⟨bts,p1,q1,q2,q3,q4,q5⟩:=Jx hb hl ((c:Int)==0) (n+1) (n+1) [] (p+1+1) (by simp) (by omega) (fun b hb=>by simp at hb) (by omega) (by omega)
 obtain ⟨svs,p2,r1,r2,r3,r4,r5⟩:=JJ hb hl ((c:Int)==0) (bts.map Bt.e) 4 [] p1 (by simp) (fun b hb=>by simp at hb) (by omega) (by omega)
 obtain ⟨k,hk,g3⟩:=bH hb hl (p:=p2) (n:=4) (by omega) (by omega) (by omega) (by omega)
 obtain ⟨m,hm,g4⟩:=bH hb hl (p:=p2+1) (n:=14) (by omega) (by omega) (by omega) (by omega)
 have w3:w64 (1+(m:Int))=((m+1:Nat):Int):=by rw[aP (by omega) (by omega)];omega
 have D0:Dr bts svs ((c:Int)==0) ⟨((c:Int)==0),bts,svs,[]⟩:=⟨rfl,rfl,rfl,by simp,fun c hc=>by simp at hc,.inl rfl⟩
 obtain ⟨f1,p3,t1,t2,t3,t4⟩:=JD hb hl ⟨by omega,q3⟩ ⟨by omega,r3⟩ (.i k) (m+1) _ (p2+1+1) D0 (by omega) (by omega) (by omega)
 obtain ⟨f2,p4,u1,u2,u3,u4⟩:=JS hb hl ⟨⟨by omega,by omega⟩,q3⟩ ⟨by omega,r3⟩ (k:Int) 60 0 f1 p3 (by omega) t2 (by omega) (by omega)
 refine ⟨f2,p4,?_,u2.szD ⟨by omega,q3⟩ ⟨by omega,r3⟩,⟨by rw[u2.s,r2],by rw[u2.b];omega⟩,by omega,by omega⟩
 simp only[List.map_nil,List.length_nil,Int.natCast_zero] at q1 r1 t1 u1
 simp only[st5,Int.natCast_zero] at u1
 simp only[aH,aH.d10,apL,jC,jD,g1,g2,call3,jI,C.I_i,w2,ao,q1,aC,aH.d9,C.L_l,r1,aH.d8,g3,g4,w3,t1,aH.d7,u1,aH.d6]
 rfl
end
end Go.Ev
namespace Go.Ev
theorem EB:∀(m n:Nat) (x acc:Str),n≤m→acc.size+n*x.size≤400→x.size≤800→n≤1000→
  ∃s:Str,lim (ap3 eJ.d1) [.s x,.i n,.s acc]=some (.brk 0 [.s s])∧s.size≤400:=by
 intro m
 induction m with
 |zero=>
  intro n x acc hn h1 h2 h3
  obtain rfl:n=0:=by omega
  exact ⟨acc,aQ rfl,by omega⟩
 |succ m ih=>
  intro n x acc hn h1 h2 h3
  by_cases h0:n=0
  ·subst h0;exact ⟨acc,aQ rfl,by omega⟩
  ·have c0:((n:Int)>0):=by omega
   have hx:x.size≤400:=by
    have:1*x.size≤n*x.size:=Nat.mul_le_mul_right _ (by omega)
    omega
   have hd:n=2*(n/2)+n%2:=by omega
   have w:w64 ((n:Int).tdiv 2)=((n/2:Nat):Int):=by
    rw[show (n:Int).tdiv 2=((n/2:Nat):Int) by rw[Int.tdiv_eq_ediv_of_nonneg (by omega)];omega,aP (by omega) (by omega)]
   have t:(n:Int).tmod 2=((n%2:Nat):Int):=by rw[Int.tmod_eq_emod_of_nonneg (by omega)];omega
   have hs:(x++x).size=x.size+x.size:=ByteArray.size_append
   have hm:n*x.size=n/2*(x.size+x.size)+n%2*x.size:=by
    conv=>lhs;rw[hd]
    rw[Nat.add_mul,Nat.mul_add,Nat.mul_assoc,Nat.two_mul]
   have c1:x.size+x.size≤4294967296:=by omega
   have c2:acc.size+x.size≤4294967296:=by omega
   rcases Nat.mod_two_eq_zero_or_one n with e|e
   ·obtain ⟨s,g1,g2⟩:=ih (n/2) (x++x) acc (by omega) (by rw[hs];rw[e] at hm;omega) (by rw[hs];omega) (by omega)
    refine ⟨s,?_,g2⟩
    rw[←g1]
    apply aG
    simp only[apL,jC,jD,eJ.d1,C.I_i,C.S_s,c0,decide_true,jR,t,e,w,c1,show (((0:Nat):Int)==1)=false from rfl,jS]
   ·obtain ⟨s,g1,g2⟩:=ih (n/2) (x++x) (acc++x) (by omega) (by rw[hs,ByteArray.size_append];rw[e] at hm;omega) (by rw[hs];omega) (by omega)
    refine ⟨s,?_,g2⟩
    rw[←g1]
    apply aG
    simp only[apL,jC,jD,eJ.d1,C.I_i,C.S_s,c0,decide_true,jR,t,e,w,c1,c2,show (((1:Nat):Int)==1)=true from rfl]
theorem DN (x:Str) (n:Nat) (h1:n≤300) (h2:x.size=1):∃s:Str,eJ [.s x,.i n]=some [.s s]∧s.size≤400:=by
 have e0:(Go.Ev.bs #[]).size=0:=rfl
 obtain ⟨s,g1,g2⟩:=EB n n x (Go.Ev.bs #[]) (by omega) (by rw[e0,h2];omega) (by omega) (by omega)
 refine ⟨s,?_,g2⟩
 simp only[eJ,eJ.d3,apL,jC,jD,g1,aC,eJ.d2]
 rfl
section
variable {bs:List (List C)} (hb:BY bs) (hl:bs.length≤2000)
include hb hl
theorem HT (pk:Bool) (sv:List (List C)) (p:Int):∀(d:Nat) (L:List Bt),L.length+d=2→(∀b,b∈L→b.Sz 1000)→
  ∃L':List Bt,lim (Aw cF.d1) [.i L.length,.l bs,.i p,.b false,.b pk,.l [],.l [],.l [],.l (L.map Bt.e),.l sv,.l []]=some (.brk 0 [.l bs,.i p,.b false,.b pk,.l [],.l [],.l [],.l (L'.map Bt.e),.l sv,.l []])∧L'.length=2∧(∀b,b∈L'→b.Sz 1000):=by
 intro d
 induction d with
 |zero=>
  intro L hn hL
  refine ⟨L,aQ ?_,by omega,hL⟩
  have:¬((L.length:Int)<2):=by omega
  simp only[apL,jC,jD,cF.d1,C.I_i,this,decide_false,jS,C.L_l]
 |succ d ih=>
  intro L hn hL
  obtain ⟨s,g2,hs⟩:=Dn (n:=L.length) (by omega)
  have b1:(Go.Ev.bs #[98]).size=1:=rfl
  have c0:(L.length:Int)<2:=by omega
  have c1:1+s.size≤4294967296:=by omega
  have c2:L.length+1≤4294967296:=by omega
  have ww:w64 ((L.length:Int)+1)=(((L++[(⟨Go.Ev.bs #[98]++s,Go.Ev.bs #[101,97,115,116],[],30,30,false⟩:Bt)]).length:Nat):Int):=by rw[aP (by omega) (by omega)];simp
  obtain ⟨L',q1,q2,q3⟩:=ih (L++[⟨Go.Ev.bs #[98]++s,Go.Ev.bs #[101,97,115,116],[],30,30,false⟩]) (by simp;omega) (fun x hx=>by
   rcases List.mem_append.1 hx with hx|hx
   ·exact hL x hx
   ·rw[List.mem_singleton.1 hx]
    exact ⟨by show (Go.Ev.bs #[98]++s).size≤1000;rw[ByteArray.size_append,b1];omega,by show (Go.Ev.bs #[101,97,115,116]).size≤1000;decide,by show 0≤1000;decide,fun m hm=>by simp at hm⟩)
  refine ⟨L',?_,q2,q3⟩
  rw[←q1]
  apply aG
  simp only[apL,jC,jD,cF.d1,C.I_i,c0,decide_true,jR,g2,ad,jI,C.S_s,b1,c1,C.L_l,jW,rows,List.length_cons,List.length_nil,Nat.zero_add,c2,ww,List.map_append,List.map_cons,List.map_nil,Bt.e,ao]
theorem HY (pk:Bool) (bt sv:List (List C)) (A:Nat) (hA:A≤10):∀(d:Nat) (L:List Cp) (p:Int),L.length+d=A+2→(∀s,s∈L→s.Sz 1000)→0≤p→p≤1125899906842624-1000+(0-10)*d→
  ∃(L':List Cp) (p':Int),lim (jk cF.d2) [.i A,.i L.length,.l bs,.i p,.b false,.b pk,.l [],.l [],.l [],.l bt,.l sv,.l (L.map Cp.e)]=some (.brk 2 [.l bs,.i p',.b false,.b pk,.l [],.l [],.l [],.l bt,.l sv,.l (L'.map Cp.e)])∧L'.length≤20∧(∀s,s∈L'→s.Sz 1000)∧p≤p'∧p'≤p+10*d:=by
 intro d
 have w2:w64 ((A:Int)+2)=(A:Int)+2:=aP (by omega) (by omega)
 induction d with
 |zero=>
  intro L p hn hL h0 h1
  refine ⟨L,p,aQ ?_,by omega,hL,by omega,by omega⟩
  have:¬((L.length:Int)<(A:Int)+2):=by omega
  simp only[apL,jC,jD,cF.d2,C.I_i,w2,this,decide_false,jS,C.L_l]
 |succ d ih=>
  intro L p hn hL h0 h1
  obtain ⟨k,hk,g1⟩:=bH hb hl h0 (show p≤1125899906842624 by omega) (n:=3) (by omega) (by omega)
  obtain ⟨m,hm,g2⟩:=bH hb hl (p:=p+1) (n:=2) (by omega) (by omega) (by omega) (by omega)
  obtain ⟨t,ht,g3⟩:=bH hb hl (p:=p+1+1) (n:=3) (by omega) (by omega) (by omega) (by omega)
  obtain ⟨u,hu,g4⟩:=bH hb hl (p:=p+1+1+1) (n:=4) (by omega) (by omega) (by omega) (by omega)
  have mb:∀x:C,(ky (rows [[x]])).size=1:=fun _=>rfl
  have b1:(Go.Ev.bs #[99]).size=1:=rfl
  have c0:(L.length:Int)<(A:Int)+2:=by omega
  have c2:L.length+1≤4294967296:=by omega
  have c1:1+1≤4294967296:=by omega
  have w:w64 ((L.length:Int)+1)=(((L.length+1:Nat)):Int):=by rw[aP (by omega) (by omega)];rfl
  have key:∀(c:Cp) (q:Int),c.Sz 1000→p≤q→q≤p+10→∃(L':List Cp) (p':Int),(∃ys,some (Out.again [.i A,.i (L.length+1:Nat),.l bs,.i q,.b false,.b pk,.l [],.l [],.l [],.l bt,.l sv,.l (L.map Cp.e++[c.e])])=some (.again ys)∧lim (jk cF.d2) ys=some (.brk 2 [.l bs,.i p',.b false,.b pk,.l [],.l [],.l [],.l bt,.l sv,.l (L'.map Cp.e)]))∧L'.length≤20∧(∀s,s∈L'→s.Sz 1000)∧p≤p'∧p'≤p+10*(d+1:Nat):=fun c q hc q1 q2=>by
   obtain ⟨L',p',r1,r2,r3,r4,r5⟩:=ih (L++[c]) q (by simp;omega) (fun x hx=>by
    rcases List.mem_append.1 hx with hx|hx
    ·exact hL x hx
    ·rw[List.mem_singleton.1 hx];exact hc) (by omega) (by omega)
   rw[List.length_append,List.map_append] at r1
   exact ⟨L',p',⟨_,rfl,r1⟩,r2,r3,by omega,by omega⟩
  have csz:∀(y:C) (rk rm:Int) (fx a:Str),fx.size≤10→a.size≤10→(Cp.mk (Go.Ev.bs #[99]++ky (rows [[y]])) (Go.Ev.bs #[119,101,98]) rk 0 1 rm (Go.Ev.bs #[]) [] 0 (Go.Ev.bs #[]) fx a).Sz 1000:=fun y rk rm fx a h1 h2=>
   ⟨by show (Go.Ev.bs #[99]++ky (rows [[y]])).size≤1000;rw[ByteArray.size_append,b1,mb];decide,by show (Go.Ev.bs #[119,101,98]).size≤1000;decide,by show (Go.Ev.bs #[]).size≤1000;decide,by show (Go.Ev.bs #[]).size≤1000;decide,by show fx.size≤1000;omega,by show a.size≤1000;omega,by show 0≤1000;decide,fun x hx=>by simp at hx⟩
  have fin:∃(L':List Cp) (p':Int),(∃ys,jk cF.d2 [.i A,.i L.length,.l bs,.i p,.b false,.b pk,.l [],.l [],.l [],.l bt,.l sv,.l (L.map Cp.e)]=some (.again ys)∧lim (jk cF.d2) ys=some (.brk 2 [.l bs,.i p',.b false,.b pk,.l [],.l [],.l [],.l bt,.l sv,.l (L'.map Cp.e)]))∧L'.length≤20∧(∀s,s∈L'→s.Sz 1000)∧p≤p'∧p'≤p+10*(d+1:Nat):=by
   simp only[apL,jC,jD,cF.d2,C.I_i,w2,c0,decide_true,jR,C.S_s,b1,mb,c1,g1,g2,g3,g4,call3,jI,C.L_l,jW,w]
   cases decide ((L.length:Int)<(A:Int)) with
   |true=>
    simp only[jR,rows,List.length_cons,List.length_nil,Nat.zero_add,c2,decide_true]
    exact key (Cp.mk (Go.Ev.bs #[99]++ky (rows [[_]])) (Go.Ev.bs #[119,101,98]) k 0 1 m (Go.Ev.bs #[]) [] 0 (Go.Ev.bs #[]) (Go.Ev.bs #[]) (Go.Ev.bs #[98,48])) _ (csz _ _ _ _ _ (by decide) (by decide)) (by omega) (by omega)
   |false=>
    cases decide ((t:Int)>0) with
    |true=>
     simp only[jR,jS,rows,List.length_cons,List.length_nil,Nat.zero_add,c2,decide_true]
     exact key (Cp.mk (Go.Ev.bs #[99]++ky (rows [[_]])) (Go.Ev.bs #[119,101,98]) (w64 (1+(u:Int))) 0 1 m (Go.Ev.bs #[]) [] 0 (Go.Ev.bs #[]) (Go.Ev.bs #[98,48]) (Go.Ev.bs #[])) _ (csz _ _ _ _ _ (by decide) (by decide)) (by omega) (by omega)
    |false=>
     simp only[jR,jS,rows,List.length_cons,List.length_nil,Nat.zero_add,c2,decide_true]
     exact key (Cp.mk (Go.Ev.bs #[99]++ky (rows [[_]])) (Go.Ev.bs #[119,101,98]) k 0 1 m (Go.Ev.bs #[]) [] 0 (Go.Ev.bs #[]) (Go.Ev.bs #[]) (Go.Ev.bs #[])) _ (csz _ _ _ _ _ (by decide) (by decide)) (by omega) (by omega)
  obtain ⟨L',p',⟨ys,r1,r2⟩,r3⟩:=fin
  exact ⟨L',p',by rw[aG r1,r2],r3⟩
theorem GW {p:Int} (h0:0≤p) (h1:p≤1125899906842624-70000):
  ∃(f:Fl) (p':Int),cF [.l bs,.i p]=some [.b f.pack,.l bs,.i p',.l (f.bts.map Bt.e),.l (f.svs.map Sv.e),.l (f.cps.map Cp.e)]∧f.Sz 1000∧p≤p'∧p'≤p+30000:=by
 obtain ⟨c,hc,g1⟩:=bH hb hl h0 (show p≤1125899906842624 by omega) (n:=2) (by omega) (by omega)
 obtain ⟨n,hn,g2⟩:=bH hb hl (p:=p+1) (n:=9) (by omega) (by omega) (by omega) (by omega)
 obtain ⟨k,hk,g3⟩:=bH hb hl (p:=p+1+1) (n:=2) (by omega) (by omega) (by omega) (by omega)
 obtain ⟨bts,q1,q2,q3⟩:=HT hb hl ((c:Int)==0) [[.s (Go.Ev.bs #[119,101,98]),.i n]] (p+1+1) 2 [] (by simp) (fun b hb=>by simp at hb)
 have w2:w64 (10-(k:Int))=((10-k:Nat):Int):=by rw[aP (by omega) (by omega)];omega
 obtain ⟨cps,p',r1,r2,r3,r4,r5⟩:=HY hb hl ((c:Int)==0) (bts.map Bt.e) [[.s (Go.Ev.bs #[119,101,98]),.i n]] (10-k) (by omega) (10-k+2) [] (p+1+1+1) (by simp) (fun b hb=>by simp at hb) (by omega) (by omega)
 refine ⟨⟨((c:Int)==0),bts,[⟨Go.Ev.bs #[119,101,98],n⟩],cps⟩,p',?_,⟨⟨by show bts.length≤1000;omega,q3⟩,⟨by show 1≤1000;decide,fun s hs=>?_⟩,by show cps.length≤1000;omega,r3⟩,by omega,by omega⟩
 ·simp only[List.map_nil,List.length_nil,Int.natCast_zero] at q1 r1
  simp only[cF,cF.d5,apL,jC,jD,g1,g2,g3,call3,jI,C.I_i,w2,ao,rows,q1,aC,cF.d4,C.L_l,r1,cF.d3]
  rfl
 ·rw[List.mem_singleton.1 hs];show (Go.Ev.bs #[119,101,98]).size≤1000;decide
end
end Go.Ev
set_option maxHeartbeats 2000000
namespace Go.Ev
abbrev spR (bs:List (List C)) (g:Fl) (p:Int):List C:=[.b g.pack,.l (g.cps.map Cp.e),.l bs,.i p,.l (g.bts.map Bt.e),.l (g.svs.map Sv.e)]
abbrev spN (bs:List (List C)) (g:Fl) (p:Int):R:=some (.nrm [.l bs,.i p,.b false,.b g.pack,.l (g.cps.map Cp.e),.l [],.l [],.l [],.l (g.bts.map Bt.e),.l (g.svs.map Sv.e)])
theorem Jg {bs:List (List C)} {X:R} {a b:Int} (h:∃(g:Fl) (p:Int),X=spN bs g p∧g.Sz 1048576∧a≤p∧p≤b):∃(g:Fl) (p:Int),aZ (bd X (s7 bI.d4))=some (spR bs g p)∧g.Sz 1048576∧a≤p∧p≤b:=by
 obtain ⟨g,p,h1,h2⟩:=h
 exact ⟨g,p,by rw[h1];rfl,h2⟩
theorem CK (L:List Str) (hL:∀s,s∈L→s.size≤400) {x:Nat} (h:x<L.length):∃v:Str,((L.map sE).getD x []).getD 0 .nil=.s v∧v.size≤400:=
 ⟨L[x],by rw[getD_map' sE h];rfl,hL _ (List.getElem_mem h)⟩
theorem E4 (L:List Int) {x:Nat} (h:x<L.length):∃v:Int,((L.map fun n=>[C.i n]).getD x []).getD 0 .nil=.i v:=
 ⟨L[x],by rw[getD_map' (fun n=>[C.i n]) h];rfl⟩
theorem J7 (L:List (List Str)) (hL:∀s,s∈L→s.length≤20∧∀m,m∈s→m.size≤20) {x:Nat} (h:x<L.length):∃v:List Str,((L.map fun m=>[C.l (m.map sE)]).getD x []).getD 0 .nil=.l (v.map sE)∧v.length≤20∧∀m,m∈v→m.size≤20:=
 ⟨L[x],by rw[getD_map' (fun m=>[C.l (m.map sE)]) h];rfl,hL _ (List.getElem_mem h)⟩
theorem sj {α:Type} {e:α→List C} {l:List α} {k:Nat} (hk:k<l.length) {i:Nat} {v:List C} {b:α} (h:aL (e l[k]) i v=e b):(l.map e).set k (aL ((l.map e).getD k []) i v)=(l.set k b).map e:=by
 rw[getD_map' e hk,h,List.map_set]
theorem Dd {f:Fl} (hz:f.Sz 1000) {b:Bt} (hb:b.Sz 1048576) (k:Nat):({f with bts:=f.bts.set k b}:Fl).Sz 1048576:=
 ⟨⟨by show (f.bts.set k b).length≤_;rw[List.length_set];exact hz.up.1.1,fun x hx=>(List.mem_or_eq_of_mem_set hx).elim (hz.up.1.2 x) (fun h=>h▸hb)⟩,hz.up.2⟩
theorem JX {f:Fl} (hz:f.Sz 1000) {b:Sv} (hb:b.Sz 1048576) (k:Nat):({f with svs:=f.svs.set k b}:Fl).Sz 1048576:=
 ⟨hz.up.1,⟨by show (f.svs.set k b).length≤_;rw[List.length_set];exact hz.up.2.1.1,fun x hx=>(List.mem_or_eq_of_mem_set hx).elim (hz.up.2.1.2 x) (fun h=>h▸hb)⟩,hz.up.2.2⟩
theorem uf {f:Fl} (hz:f.Sz 1000) {b:Cp} (hb:b.Sz 1048576) (k:Nat):({f with cps:=f.cps.set k b}:Fl).Sz 1048576:=
 ⟨hz.up.1,hz.up.2.1,by show (f.cps.set k b).length≤_;rw[List.length_set];exact hz.up.2.2.1,fun x hx=>(List.mem_or_eq_of_mem_set hx).elim (hz.up.2.2.2 x) (fun h=>h▸hb)⟩
theorem Cq (l:List Cp):List.all (l.map Cp.e) (pZ [.str,.str,(.int .i64),(.int .i64),(.int .i64),(.int .i64),.str,(.sl 109),(.int .i64),.str,.str,.str])=true:=by
 rw[List.all_eq_true]
 intro x hx
 obtain ⟨c,_,rfl⟩:=List.mem_map.1 hx
 rfl
theorem trS {l:List Cp} {n:Nat} (h:n<l.length) (x:List C) (y:Lk) (hy:y.e=x):
  ((l.map Cp.e).set n (aL ((l.map Cp.e).getD n []) 7 [.nil])).set n (aL (((l.map Cp.e).set n (aL ((l.map Cp.e).getD n []) 7 [.nil])).getD n []) 7 [.l ((((l.map Cp.e).getD n []).getD 7 .nil).L++[x])])=(l.set n {l[n] with likes:=l[n].likes++[y]}).map Cp.e:=by
 have h0:n<(l.map Cp.e).length:=by rw[jW];exact h
 rw[List.set_set]
 have h1:((l.map Cp.e).set n (aL ((l.map Cp.e).getD n []) 7 [.nil])).getD n []=aL ((l.map Cp.e).getD n []) 7 [.nil]:=by
  rw[List.getD_eq_getElem?_getD,List.getElem?_set_self h0];rfl
 rw[h1,getD_map' Cp.e h,List.map_set]
 congr 1
 simp only[Cp.e,aL,jC,jD,C.L_l,List.map_append,List.map_cons,List.map_nil,hy]
 rfl
section
variable {bs:List (List C)} (hb:BY bs) (hl:bs.length≤2000)
include hb hl
theorem JE (pk:Bool) (bt sv:List (List C)) (n B:Nat) (hB:B≤20):∀(d:Nat) (l:List Cp) (p:Int) (hn:n<l.length),B≤l[n].likes.length+d→d≤20→(∀c,c∈l→c.Sz 1048576)→0≤p→p≤1125899906842624-1000+(0-10)*d→
  ∃(l':List Cp) (p':Int),lim (jk bI.d1) [.i n,.i B,.l bs,.i p,.b false,.b pk,.l [],.l [],.l [],.l bt,.l sv,.l (l.map Cp.e)]=some (.brk 1 [.l bs,.i p',.b false,.b pk,.l [],.l [],.l [],.l bt,.l sv,.l (l'.map Cp.e)])∧l'.length=l.length∧(∀c,c∈l'→c.Sz 1048576)∧p≤p'∧p'≤p+10*d:=by
 intro d
 induction d with
 |zero=>
  intro l p hn hd hd2 hL h0 h1
  refine ⟨l,p,aQ ?_,rfl,hL,by omega,by omega⟩
  have:¬((l[n].likes.length:Int)<(B:Int)):=by omega
  simp only[apL,jC,jD,bI.d1,C.I_i,C.L_l,jW,jY,ltL hn,jX,decide_true,jR]
  rw[getD_map' Cp.e hn]
  simp only[Cp.e,jC,jD,C.L_l,jW,this,decide_false,jS]
 |succ d ih=>
  intro l p hn hd hd2 hL h0 h1
  by_cases hlt:l[n].likes.length<B
  ·obtain ⟨k,hk,g1⟩:=bH hb hl h0 (show p≤1125899906842624 by omega) (n:=2) (by omega) (by omega)
   obtain ⟨m,hm,g2⟩:=bH hb hl (p:=p+1) (n:=2) (by omega) (by omega) (by omega) (by omega)
   have hc:=hL _ (List.getElem_mem hn)
   have he:Lk.e ⟨Go.Ev.bs #[],w64 (9+w64 ((k:Int)*(m:Int)))⟩=[.s (Go.Ev.bs #[]),.i (w64 (9+w64 ((k:Int)*(m:Int))))]:=rfl
   have ht:=trS hn _ _ he
   have hn':n<(l.set n {l[n] with likes:=l[n].likes++[⟨Go.Ev.bs #[],w64 (9+w64 ((k:Int)*(m:Int)))⟩]}).length:=by rw[List.length_set];exact hn
   obtain ⟨l',p',q1,q2,q3,q4,q5⟩:=ih (l.set n {l[n] with likes:=l[n].likes++[⟨Go.Ev.bs #[],w64 (9+w64 ((k:Int)*(m:Int)))⟩]}) (p+1+1) hn' (by rw[List.getElem_set_self];show B≤(l[n].likes++[_]).length+d;rw[List.length_append];simp only[List.length_cons,List.length_nil];omega) (by omega) (fun c hc'=>by
    rcases List.mem_or_eq_of_mem_set hc' with hc'|rfl
    ·exact hL c hc'
    ·refine ⟨hc.1,hc.2.1,hc.2.2.1,hc.2.2.2.1,hc.2.2.2.2.1,hc.2.2.2.2.2.1,?_,fun x hx=>?_⟩
     ·show (l[n].likes++[_]).length≤_
      rw[List.length_append];simp only[List.length_cons,List.length_nil];omega
     ·rcases List.mem_append.1 hx with hx|hx
      ·exact hc.2.2.2.2.2.2.2 x hx
      ·rw[List.mem_singleton.1 hx];show (Go.Ev.bs #[]).size≤_;decide) (by omega) (by omega)
   refine ⟨l',p',?_,by rw[q2,List.length_set],q3,by omega,by omega⟩
   rw[←q1]
   apply aG
   have c1:(l[n].likes.length:Int)<(B:Int):=by omega
   have c2:l[n].likes.length+1≤4294967296:=by omega
   have hg7:(((l.map Cp.e).getD n []).getD 7 .nil).L.length=l[n].likes.length:=by rw[getD_map' Cp.e hn];simp[Cp.e]
   simp only[apL,jC,jD,bI.d1,C.I_i,C.L_l,jW,jY,ltL hn,jX,decide_true,jR,hg7,c1,g1,g2,call3,jI,rows,List.length_cons,List.length_nil,Nat.zero_add,c2,List.length_set,ht,Cq]
  ·refine ⟨l,p,aQ ?_,rfl,hL,by omega,by omega⟩
   have:¬((l[n].likes.length:Int)<(B:Int)):=by omega
   simp only[apL,jC,jD,bI.d1,C.I_i,C.L_l,jW,jY,ltL hn,jX,decide_true,jR]
   rw[getD_map' Cp.e hn]
   simp only[Cp.e,jC,jD,C.L_l,jW,this,decide_false,jS]
omit hb hl in
theorem Jz (pk:Bool) (bts:List Bt) (sv:List (List C)) {k:Nat} (hk:k<bts.length) (hz:bts[k].name.size≤1000) (p:Int) (B:Nat) (hB:B≤20):∀(d:Nat) (L:List Cp),L.length+d=B→(∀c,c∈L→c.Sz 1048576)→
  ∃L':List Cp,lim (oQ bI.d3) [.i k,.i B,.i L.length,.l bs,.i p,.b false,.b pk,.l [],.l [],.l [],.l (bts.map Bt.e),.l sv,.l (L.map Cp.e)]=some (.brk 3 [.l bs,.i p,.b false,.b pk,.l [],.l [],.l [],.l (bts.map Bt.e),.l sv,.l (L'.map Cp.e)])∧L'.length≤20∧(∀c,c∈L'→c.Sz 1048576):=by
 intro d
 induction d with
 |zero=>
  intro L hn hL
  refine ⟨L,aQ ?_,by omega,hL⟩
  have:¬((L.length:Int)<(B:Int)):=by omega
  simp only[apL,jC,jD,bI.d3,C.I_i,this,decide_false,jS,C.L_l]
 |succ d ih=>
  intro L hn hL
  have mb:∀x:C,(ky (rows [[x]])).size=1:=fun _=>rfl
  have b1:(Go.Ev.bs #[99]).size=1:=rfl
  have c0:(L.length:Int)<(B:Int):=by omega
  have c1:1+1≤4294967296:=by omega
  have c2:L.length+1≤4294967296:=by omega
  have w:w64 ((L.length:Int)+1)=(((L.length+1:Nat)):Int):=by rw[aP (by omega) (by omega)];rfl
  let c:Cp:=⟨Go.Ev.bs #[99]++ky (rows [[.i (IntKind.wrap .u8 (w64 (97+(L.length:Int))))]]),Go.Ev.bs #[119,101,98],0,0,0,0,Go.Ev.bs #[],[],0,Go.Ev.bs #[],Go.Ev.bs #[],bts[k].name⟩
  have hc:c.Sz 1048576:=⟨by show (Go.Ev.bs #[99]++ky (rows [[_]])).size≤_;rw[ByteArray.size_append,b1,mb];decide,by show (Go.Ev.bs #[119,101,98]).size≤_;decide,by show (Go.Ev.bs #[]).size≤_;decide,by show (Go.Ev.bs #[]).size≤_;decide,by show (Go.Ev.bs #[]).size≤_;decide,by show bts[k].name.size≤_;omega,by show 0≤_;decide,fun x hx=>by simp[c] at hx⟩
  obtain ⟨L',q1,q2,q3⟩:=ih (L++[c]) (by simp;omega) (fun x hx=>by
   rcases List.mem_append.1 hx with hx|hx
   ·exact hL x hx
   ·rw[List.mem_singleton.1 hx];exact hc)
  refine ⟨L',?_,q2,q3⟩
  rw[←q1]
  apply aG
  simp only[apL,jC,jD,bI.d3,C.I_i,c0,decide_true,jR,C.S_s,b1,mb,c1,C.L_l,jW,w,ltL hk,jX,jY,List.length_append,List.map_append]
  rw[getD_map' Bt.e hk]
  simp only[rows,List.length_cons,List.length_nil,Nat.zero_add,c2,decide_true,jR,Bt.e,jC,ao]
  rfl
theorem Gl {f:Fl} (hz:f.Sz 1000) (hs:f.svs.length=4) (hb1:1≤f.bts.length) {p:Int} (h0:0≤p) (h1:p≤1125899906842624-10000):
  ∃(g:Fl) (p':Int),bI (f.e++[.l bs,.i p])=some (spR bs g p')∧g.Sz 1048576∧p≤p'∧p'≤p+1000:=by
 have hF:=jj hz.up
 have hbl:=hz.1.1
 have hcl:=hz.2.2.1
 obtain ⟨k,hk,g1⟩:=bH hb hl h0 (show p≤1125899906842624 by omega) (n:=(f.bts.length:Int)) (by omega) (by omega)
 have hk':k<f.bts.length:=by omega
 have hbk:=(hz.1.2 _ (List.getElem_mem hk')).up
 have hbk0:=hz.1.2 _ (List.getElem_mem hk')
 have nb:((f.bts.length:Int)==0)=false:=by rw[beq_eq_false_iff_ne];omega
 simp only[Fl.e] at hF
 by_cases hc0:f.cps.length=0
 ·have g2:=Kc (bs:=bs) (p:=p+1) (n:=(f.cps.length:Int)) (by omega) (by omega) (by omega)
  have nc:((f.cps.length:Int)==0)=true:=by rw[hc0];rfl
  refine ⟨⟨false,[],[⟨Go.Ev.bs #[],0⟩],[]⟩,p+1+1,?_,⟨⟨by show 0≤_;decide,fun b hb=>by simp at hb⟩,⟨by show 1≤_;decide,fun s hs=>by rw[List.mem_singleton.1 hs];show (Go.Ev.bs #[]).size≤_;decide⟩,by show 0≤_;decide,fun b hb=>by simp at hb⟩,by omega,by omega⟩
  simp only[bI,bI.d5,Fl.e,jA,jB,apL,jC,jD,hF,call4,jI,C.L_l,jW,g1,g2,call3,nb,nc,ja,jR,jV]
  rfl
 obtain ⟨n,hn,g2⟩:=bH hb hl (p:=p+1) (n:=(f.cps.length:Int)) (by omega) (by omega) (by omega) (by omega)
 have hn':n<f.cps.length:=by omega
 have hcn:=(hz.2.2.2 _ (List.getElem_mem hn')).up
 have nc:((f.cps.length:Int)==0)=false:=by rw[beq_eq_false_iff_ne];omega
 obtain ⟨q,hq,g3⟩:=bH hb hl (p:=p+1+1) (n:=16) (by omega) (by omega) (by omega) (by omega)
 simp only[bI,bI.d5,Fl.e,jA,jB,apL,jC,jD,hF,call4,jI,C.L_l,C.I_i,jW,g1,g2,call3,nb,nc,ja,jR,jS]
 refine Jg ?_
 rw[g3]
 simp only[jI,jC,jD,C.I_i]
 have hqq:q=0∨q=1∨q=2∨q=3∨q=4∨q=5∨q=6∨q=7∨q=8∨q=9∨q=10∨q=11∨q=12∨q=13∨q=14∨q=15:=by omega
 rcases hqq with rfl|rfl|rfl|rfl|rfl|rfl|rfl|rfl|rfl|rfl|rfl|rfl|rfl|rfl|rfl|rfl
 ·simp only[show ((((0:Nat):Int))==0)=true from rfl,jR,jS]
  obtain ⟨t,ht,g4⟩:=bH hb hl (p:=p+1+1+1) (n:=2) (by omega) (by omega) (by omega) (by omega)
  have w20:w64 (20+(t:Int))=((20+t:Nat):Int):=by rw[aP (by omega) (by omega)];omega
  obtain ⟨w,gm,hw⟩:=DN (Go.Ev.bs #[110]) (20+t) (by omega) rfl
  obtain ⟨x,hx,g5⟩:=bH hb hl (p:=p+1+1+1+1) (n:=4) (by omega) (by omega) (by omega) (by omega)
  obtain ⟨v,v1,v2⟩:=CK [Go.Ev.bs #[],Go.Ev.bs #[65],Go.Ev.bs #[122,122],w] (by intro s hs;simp only[List.mem_cons,List.not_mem_nil,or_false] at hs;rcases hs with rfl|rfl|rfl|rfl<;>first|assumption|decide) (x:=x) (by simp only[List.length_cons,List.length_nil];omega)
  simp only[List.map_cons,List.map_nil,sE] at v1
  have l1:((x:Nat):Int)<((4:Nat):Int):=by omega
  have st:(f.bts.map Bt.e).set k (aL ((f.bts.map Bt.e).getD k []) 0 [.s v])=(f.bts.set k {f.bts[k] with name:=v}).map Bt.e:=sj hk' rfl
  simp only[g4,g5,gm,w20,call3,ad,jI,jC,jD,C.I_i,jX,decide_true,jR,rows,List.length_cons,List.length_nil,Nat.zero_add,Nat.reduceAdd,jY,ao,l1,v1,ltL hk',st]
  exact ⟨{f with bts:=f.bts.set k {f.bts[k] with name:=v}},p+1+1+1+1+1,rfl,Dd hz (b:= {f.bts[k] with name:=v}) ⟨Nat.le_trans v2 (by decide),hbk.2⟩ k,by omega,by omega⟩
 ·simp only[show ((((1:Nat):Int))==0)=false from rfl,show ((((1:Nat):Int))==1)=true from rfl,jR,jS]
  obtain ⟨x,hx,g4⟩:=bH hb hl (p:=p+1+1+1) (n:=2) (by omega) (by omega) (by omega) (by omega)
  obtain ⟨v,v1,v2⟩:=CK [Go.Ev.bs #[],Go.Ev.bs #[120,32,121]] (by intro s hs;simp only[List.mem_cons,List.not_mem_nil,or_false] at hs;rcases hs with rfl|rfl<;>first|assumption|decide) (x:=x) (by simp only[List.length_cons,List.length_nil];omega)
  simp only[List.map_cons,List.map_nil,sE] at v1
  have l1:((x:Nat):Int)<((2:Nat):Int):=by omega
  have st:(f.bts.map Bt.e).set k (aL ((f.bts.map Bt.e).getD k []) 1 [.s v])=(f.bts.set k {f.bts[k] with zone:=v}).map Bt.e:=sj hk' rfl
  simp only[g4,call3,ad,jI,jC,jD,C.I_i,jX,decide_true,jR,rows,List.length_cons,List.length_nil,Nat.zero_add,Nat.reduceAdd,jY,ao,l1,v1,ltL hk',st]
  exact ⟨{f with bts:=f.bts.set k {f.bts[k] with zone:=v}},p+1+1+1+1,rfl,Dd hz (b:= {f.bts[k] with zone:=v}) ⟨hbk.1,Nat.le_trans v2 (by decide),hbk.2.2⟩ k,by omega,by omega⟩
 ·simp only[show ((((2:Nat):Int))==0)=false from rfl,show ((((2:Nat):Int))==1)=false from rfl,show ((((2:Nat):Int))==2)=true from rfl,jR,jS]
  obtain ⟨x,hx,g4⟩:=bH hb hl (p:=p+1+1+1) (n:=6) (by omega) (by omega) (by omega) (by omega)
  obtain ⟨v,v1,v2,v3⟩:=J7 [[Go.Ev.bs #[98],Go.Ev.bs #[97]],[Go.Ev.bs #[97],Go.Ev.bs #[97,61,98]],[Go.Ev.bs #[97,61,98],Go.Ev.bs #[97,61,99]],[Go.Ev.bs #[65]],[Go.Ev.bs #[97],Go.Ev.bs #[97,45,120],Go.Ev.bs #[97,61,98]],[Go.Ev.bs #[49],Go.Ev.bs #[50],Go.Ev.bs #[51],Go.Ev.bs #[52],Go.Ev.bs #[53],Go.Ev.bs #[54],Go.Ev.bs #[55],Go.Ev.bs #[56],Go.Ev.bs #[57],Go.Ev.bs #[97],Go.Ev.bs #[98]]] (by decide) (x:=x) (by simp only[List.length_cons,List.length_nil];omega)
  simp only[List.map_cons,List.map_nil,sE] at v1
  have l1:((x:Nat):Int)<((6:Nat):Int):=by omega
  have st:(f.bts.map Bt.e).set k (aL ((f.bts.map Bt.e).getD k []) 2 [.l (v.map sE)])=(f.bts.set k {f.bts[k] with marks:=v}).map Bt.e:=sj hk' rfl
  simp only[g4,call3,ad,jI,jC,jD,C.I_i,jX,decide_true,jR,rows,List.length_cons,List.length_nil,Nat.zero_add,Nat.reduceAdd,jY,ao,l1,v1,ltL hk',st]
  exact ⟨{f with bts:=f.bts.set k {f.bts[k] with marks:=v}},p+1+1+1+1,rfl,Dd hz (b:= {f.bts[k] with marks:=v}) ⟨hbk.1,hbk.2.1,Nat.le_trans v2 (by decide),fun m hm=>Nat.le_trans (v3 m hm) (by decide)⟩ k,by omega,by omega⟩
 ·simp only[show ((((3:Nat):Int))==0)=false from rfl,show ((((3:Nat):Int))==1)=false from rfl,show ((((3:Nat):Int))==2)=false from rfl,show ((((3:Nat):Int))==3)=true from rfl,jR,jS]
  obtain ⟨x,hx,g4⟩:=bH hb hl (p:=p+1+1+1) (n:=4) (by omega) (by omega) (by omega) (by omega)
  obtain ⟨v,v1⟩:=E4 [-1,0,1000,1001] (x:=x) (by simp only[List.length_cons,List.length_nil];omega)
  simp only[List.map_cons,List.map_nil] at v1
  have l1:((x:Nat):Int)<((4:Nat):Int):=by omega
  have st:(f.bts.map Bt.e).set k (aL ((f.bts.map Bt.e).getD k []) 3 [.i v])=(f.bts.set k {f.bts[k] with room:=v}).map Bt.e:=sj hk' rfl
  simp only[g4,call3,ad,jI,jC,jD,C.I_i,jX,decide_true,jR,rows,List.length_cons,List.length_nil,Nat.zero_add,Nat.reduceAdd,jY,ao,l1,v1,ltL hk',st]
  exact ⟨{f with bts:=f.bts.set k {f.bts[k] with room:=v}},p+1+1+1+1,rfl,Dd hz (b:= {f.bts[k] with room:=v}) hbk k,by omega,by omega⟩
 ·simp only[show ((((4:Nat):Int))==0)=false from rfl,show ((((4:Nat):Int))==1)=false from rfl,show ((((4:Nat):Int))==2)=false from rfl,show ((((4:Nat):Int))==3)=false from rfl,show ((((4:Nat):Int))==4)=true from rfl,jR,jS]
  have c1:f.bts.length+1≤4294967296:=by omega
  have hr:[((f.bts.map Bt.e).getD k []).getD 0 .nil,((f.bts.map Bt.e).getD k []).getD 1 .nil,((f.bts.map Bt.e).getD k []).getD 2 .nil,((f.bts.map Bt.e).getD k []).getD 3 .nil,((f.bts.map Bt.e).getD k []).getD 4 .nil,((f.bts.map Bt.e).getD k []).getD 5 .nil]=f.bts[k].e:=by rw[getD_map' Bt.e hk'];rfl
  simp only[call3,ad,jI,jC,jD,C.I_i,jX,decide_true,jR,rows,List.length_cons,List.length_nil,Nat.zero_add,Nat.reduceAdd,jY,ao,ltL hk',c1,hr]
  refine ⟨{f with bts:=f.bts++[f.bts[k]]},p+1+1+1,by simp only[spN,List.map_append,List.map_cons,List.map_nil],⟨⟨by show (f.bts++[f.bts[k]]).length≤_;rw[List.length_append];simp only[List.length_cons,List.length_nil];omega,fun x hx=>?_⟩,hz.up.2⟩,by omega,by omega⟩
  rcases List.mem_append.1 hx with hx|hx
  ·exact hz.up.1.2 x hx
  ·rw[List.mem_singleton.1 hx];exact hbk
 ·simp only[show ((((5:Nat):Int))==0)=false from rfl,show ((((5:Nat):Int))==1)=false from rfl,show ((((5:Nat):Int))==2)=false from rfl,show ((((5:Nat):Int))==3)=false from rfl,show ((((5:Nat):Int))==4)=false from rfl,show ((((5:Nat):Int))==5)=true from rfl,jR,jS]
  obtain ⟨a,ha,g4⟩:=bH hb hl (p:=p+1+1+1) (n:=4) (by omega) (by omega) (by omega) (by omega)
  have ha':a<f.svs.length:=by omega
  have hsa:f.svs[a].name.size≤1048576:=hz.up.2.1.2 _ (List.getElem_mem ha')
  obtain ⟨x,hx,g5⟩:=bH hb hl (p:=p+1+1+1+1) (n:=3) (by omega) (by omega) (by omega) (by omega)
  obtain ⟨v,v1⟩:=E4 [-1,60,61] (x:=x) (by simp only[List.length_cons,List.length_nil];omega)
  simp only[List.map_cons,List.map_nil] at v1
  have l1:((x:Nat):Int)<((3:Nat):Int):=by omega
  have st:(f.svs.map Sv.e).set a (aL ((f.svs.map Sv.e).getD a []) 1 [.i v])=(f.svs.set a {f.svs[a] with spare:=v}).map Sv.e:=sj ha' rfl
  simp only[g4,g5,call3,ad,jI,jC,jD,C.I_i,jX,decide_true,jR,rows,List.length_cons,List.length_nil,Nat.zero_add,Nat.reduceAdd,jY,ao,l1,v1,ltL ha',st]
  exact ⟨{f with svs:=f.svs.set a {f.svs[a] with spare:=v}},p+1+1+1+1+1,rfl,JX hz (b:= {f.svs[a] with spare:=v}) hsa a,by omega,by omega⟩
 ·simp only[show ((((6:Nat):Int))==0)=false from rfl,show ((((6:Nat):Int))==1)=false from rfl,show ((((6:Nat):Int))==2)=false from rfl,show ((((6:Nat):Int))==3)=false from rfl,show ((((6:Nat):Int))==4)=false from rfl,show ((((6:Nat):Int))==5)=false from rfl,show ((((6:Nat):Int))==6)=true from rfl,jR,jS]
  obtain ⟨x,hx,g4⟩:=bH hb hl (p:=p+1+1+1) (n:=3) (by omega) (by omega) (by omega) (by omega)
  obtain ⟨v,v1⟩:=E4 [-1,100,101] (x:=x) (by simp only[List.length_cons,List.length_nil];omega)
  simp only[List.map_cons,List.map_nil] at v1
  have l1:((x:Nat):Int)<((3:Nat):Int):=by omega
  have st:(f.cps.map Cp.e).set n (aL ((f.cps.map Cp.e).getD n []) 2 [.i v])=(f.cps.set n {f.cps[n] with rank:=v}).map Cp.e:=sj hn' rfl
  simp only[g4,call3,ad,jI,jC,jD,C.I_i,jX,decide_true,jR,rows,List.length_cons,List.length_nil,Nat.zero_add,Nat.reduceAdd,jY,ao,l1,v1,ltL hn',st]
  exact ⟨{f with cps:=f.cps.set n {f.cps[n] with rank:=v}},p+1+1+1+1,rfl,uf hz (b:= {f.cps[n] with rank:=v}) hcn n,by omega,by omega⟩
 ·simp only[show ((((7:Nat):Int))==0)=false from rfl,show ((((7:Nat):Int))==1)=false from rfl,show ((((7:Nat):Int))==2)=false from rfl,show ((((7:Nat):Int))==3)=false from rfl,show ((((7:Nat):Int))==4)=false from rfl,show ((((7:Nat):Int))==5)=false from rfl,show ((((7:Nat):Int))==6)=false from rfl,show ((((7:Nat):Int))==7)=true from rfl,jR,jS]
  obtain ⟨x,hx,g4⟩:=bH hb hl (p:=p+1+1+1) (n:=3) (by omega) (by omega) (by omega) (by omega)
  obtain ⟨v,v1⟩:=E4 [-1,1000000,1000001] (x:=x) (by simp only[List.length_cons,List.length_nil];omega)
  simp only[List.map_cons,List.map_nil] at v1
  have l1:((x:Nat):Int)<((3:Nat):Int):=by omega
  have st:(f.cps.map Cp.e).set n (aL ((f.cps.map Cp.e).getD n []) 3 [.i v])=(f.cps.set n {f.cps[n] with born:=v}).map Cp.e:=sj hn' rfl
  simp only[g4,call3,ad,jI,jC,jD,C.I_i,jX,decide_true,jR,rows,List.length_cons,List.length_nil,Nat.zero_add,Nat.reduceAdd,jY,ao,l1,v1,ltL hn',st]
  exact ⟨{f with cps:=f.cps.set n {f.cps[n] with born:=v}},p+1+1+1+1,rfl,uf hz (b:= {f.cps[n] with born:=v}) hcn n,by omega,by omega⟩
 ·simp only[show ((((8:Nat):Int))==0)=false from rfl,show ((((8:Nat):Int))==1)=false from rfl,show ((((8:Nat):Int))==2)=false from rfl,show ((((8:Nat):Int))==3)=false from rfl,show ((((8:Nat):Int))==4)=false from rfl,show ((((8:Nat):Int))==5)=false from rfl,show ((((8:Nat):Int))==6)=false from rfl,show ((((8:Nat):Int))==7)=false from rfl,show ((((8:Nat):Int))==8)=true from rfl,jR,jS]
  obtain ⟨x,hx,g4⟩:=bH hb hl (p:=p+1+1+1) (n:=3) (by omega) (by omega) (by omega) (by omega)
  obtain ⟨v,v1⟩:=E4 [-1,1000,1001] (x:=x) (by simp only[List.length_cons,List.length_nil];omega)
  simp only[List.map_cons,List.map_nil] at v1
  have l1:((x:Nat):Int)<((3:Nat):Int):=by omega
  have st:(f.cps.map Cp.e).set n (aL ((f.cps.map Cp.e).getD n []) 4 [.i v])=(f.cps.set n {f.cps[n] with room:=v}).map Cp.e:=sj hn' rfl
  simp only[g4,call3,ad,jI,jC,jD,C.I_i,jX,decide_true,jR,rows,List.length_cons,List.length_nil,Nat.zero_add,Nat.reduceAdd,jY,ao,l1,v1,ltL hn',st]
  exact ⟨{f with cps:=f.cps.set n {f.cps[n] with room:=v}},p+1+1+1+1,rfl,uf hz (b:= {f.cps[n] with room:=v}) hcn n,by omega,by omega⟩
 ·simp only[show ((((9:Nat):Int))==0)=false from rfl,show ((((9:Nat):Int))==1)=false from rfl,show ((((9:Nat):Int))==2)=false from rfl,show ((((9:Nat):Int))==3)=false from rfl,show ((((9:Nat):Int))==4)=false from rfl,show ((((9:Nat):Int))==5)=false from rfl,show ((((9:Nat):Int))==6)=false from rfl,show ((((9:Nat):Int))==7)=false from rfl,show ((((9:Nat):Int))==8)=false from rfl,show ((((9:Nat):Int))==9)=true from rfl,jR,jS]
  obtain ⟨w,gm,hw⟩:=DN (Go.Ev.bs #[97]) 201 (by omega) rfl
  have gm':eJ [.s (Go.Ev.bs #[97]),.i 201]=some [.s w]:=gm
  obtain ⟨x,hx,g4⟩:=bH hb hl (p:=p+1+1+1) (n:=4) (by omega) (by omega) (by omega) (by omega)
  obtain ⟨v,v1,v2⟩:=CK [Go.Ev.bs #[97,32,98],Go.Ev.bs #[33],w,Go.Ev.bs #[120]] (by intro s hs;simp only[List.mem_cons,List.not_mem_nil,or_false] at hs;rcases hs with rfl|rfl|rfl|rfl<;>first|assumption|decide) (x:=x) (by simp only[List.length_cons,List.length_nil];omega)
  simp only[List.map_cons,List.map_nil,sE] at v1
  have l1:((x:Nat):Int)<((4:Nat):Int):=by omega
  have st:(f.cps.map Cp.e).set n (aL ((f.cps.map Cp.e).getD n []) 6 [.s v])=(f.cps.set n {f.cps[n] with sel:=v}).map Cp.e:=sj hn' rfl
  simp only[g4,gm',call3,ad,jI,jC,jD,C.I_i,jX,decide_true,jR,rows,List.length_cons,List.length_nil,Nat.zero_add,Nat.reduceAdd,jY,ao,l1,v1,ltL hn',st]
  exact ⟨{f with cps:=f.cps.set n {f.cps[n] with sel:=v}},p+1+1+1+1,rfl,uf hz (b:= {f.cps[n] with sel:=v}) ⟨hcn.1,hcn.2.1,Nat.le_trans v2 (by decide),hcn.2.2.2.1,hcn.2.2.2.2.1,hcn.2.2.2.2.2.1,hcn.2.2.2.2.2.2⟩ n,by omega,by omega⟩
 ·simp only[show ((((10:Nat):Int))==0)=false from rfl,show ((((10:Nat):Int))==1)=false from rfl,show ((((10:Nat):Int))==2)=false from rfl,show ((((10:Nat):Int))==3)=false from rfl,show ((((10:Nat):Int))==4)=false from rfl,show ((((10:Nat):Int))==5)=false from rfl,show ((((10:Nat):Int))==6)=false from rfl,show ((((10:Nat):Int))==7)=false from rfl,show ((((10:Nat):Int))==8)=false from rfl,show ((((10:Nat):Int))==9)=false from rfl,show ((((10:Nat):Int))==10)=true from rfl,jR,jS]
  obtain ⟨x,hx,g4⟩:=bH hb hl (p:=p+1+1+1) (n:=2) (by omega) (by omega) (by omega) (by omega)
  have w5:w64 (5+(x:Int))=((5+x:Nat):Int):=by rw[aP (by omega) (by omega)];omega
  obtain ⟨l',p',q1,q2,q3,q4,q5⟩:=JE hb hl f.pack (f.bts.map Bt.e) (f.svs.map Sv.e) n (5+x) (by omega) 20 f.cps (p+1+1+1+1) hn' (by omega) (by omega) hz.up.2.2.2 (by omega) (by omega)
  simp only[g4,call3,ad,jI,jC,jD,C.I_i,jX,decide_true,jR,rows,List.length_cons,List.length_nil,Nat.zero_add,Nat.reduceAdd,jY,ao,w5,q1,aC,bI.d2,apL,C.L_l]
  exact ⟨{f with cps:=l'},p',rfl,⟨hz.up.1,hz.up.2.1,by show l'.length≤_;omega,q3⟩,by omega,by omega⟩
 ·simp only[show ((((11:Nat):Int))==0)=false from rfl,show ((((11:Nat):Int))==1)=false from rfl,show ((((11:Nat):Int))==2)=false from rfl,show ((((11:Nat):Int))==3)=false from rfl,show ((((11:Nat):Int))==4)=false from rfl,show ((((11:Nat):Int))==5)=false from rfl,show ((((11:Nat):Int))==6)=false from rfl,show ((((11:Nat):Int))==7)=false from rfl,show ((((11:Nat):Int))==8)=false from rfl,show ((((11:Nat):Int))==9)=false from rfl,show ((((11:Nat):Int))==10)=false from rfl,show ((((11:Nat):Int))==11)=true from rfl,jR,jS]
  obtain ⟨x,hx,g4⟩:=bH hb hl (p:=p+1+1+1) (n:=2) (by omega) (by omega) (by omega) (by omega)
  obtain ⟨v,v1⟩:=E4 [-1,3] (x:=x) (by simp only[List.length_cons,List.length_nil];omega)
  simp only[List.map_cons,List.map_nil] at v1
  have l1:((x:Nat):Int)<((2:Nat):Int):=by omega
  have st:(f.cps.map Cp.e).set n (aL ((f.cps.map Cp.e).getD n []) 8 [.i v])=(f.cps.set n {f.cps[n] with apart:=v}).map Cp.e:=sj hn' rfl
  simp only[g4,call3,ad,jI,jC,jD,C.I_i,jX,decide_true,jR,rows,List.length_cons,List.length_nil,Nat.zero_add,Nat.reduceAdd,jY,ao,l1,v1,ltL hn',st]
  exact ⟨{f with cps:=f.cps.set n {f.cps[n] with apart:=v}},p+1+1+1+1,rfl,uf hz (b:= {f.cps[n] with apart:=v}) hcn n,by omega,by omega⟩
 ·simp only[show ((((12:Nat):Int))==0)=false from rfl,show ((((12:Nat):Int))==1)=false from rfl,show ((((12:Nat):Int))==2)=false from rfl,show ((((12:Nat):Int))==3)=false from rfl,show ((((12:Nat):Int))==4)=false from rfl,show ((((12:Nat):Int))==5)=false from rfl,show ((((12:Nat):Int))==6)=false from rfl,show ((((12:Nat):Int))==7)=false from rfl,show ((((12:Nat):Int))==8)=false from rfl,show ((((12:Nat):Int))==9)=false from rfl,show ((((12:Nat):Int))==10)=false from rfl,show ((((12:Nat):Int))==11)=false from rfl,show ((((12:Nat):Int))==12)=true from rfl,jR,jS]
  obtain ⟨x,hx,g4⟩:=bH hb hl (p:=p+1+1+1) (n:=3) (by omega) (by omega) (by omega) (by omega)
  obtain ⟨v,v1,v2⟩:=CK [Go.Ev.bs #[103,111,110,101],Go.Ev.bs #[98,48],Go.Ev.bs #[98,49]] (by intro s hs;simp only[List.mem_cons,List.not_mem_nil,or_false] at hs;rcases hs with rfl|rfl|rfl<;>first|assumption|decide) (x:=x) (by simp only[List.length_cons,List.length_nil];omega)
  simp only[List.map_cons,List.map_nil,sE] at v1
  have l1:((x:Nat):Int)<((3:Nat):Int):=by omega
  have st:(f.cps.map Cp.e).set n (aL ((f.cps.map Cp.e).getD n []) 11 [.s v])=(f.cps.set n {f.cps[n] with at_:=v}).map Cp.e:=sj hn' rfl
  simp only[g4,call3,ad,jI,jC,jD,C.I_i,jX,decide_true,jR,rows,List.length_cons,List.length_nil,Nat.zero_add,Nat.reduceAdd,jY,ao,l1,v1,ltL hn',st]
  exact ⟨{f with cps:=f.cps.set n {f.cps[n] with at_:=v}},p+1+1+1+1,rfl,uf hz (b:= {f.cps[n] with at_:=v}) ⟨hcn.1,hcn.2.1,hcn.2.2.1,hcn.2.2.2.1,hcn.2.2.2.2.1,Nat.le_trans v2 (by decide),hcn.2.2.2.2.2.2⟩ n,by omega,by omega⟩
 ·simp only[show ((((13:Nat):Int))==0)=false from rfl,show ((((13:Nat):Int))==1)=false from rfl,show ((((13:Nat):Int))==2)=false from rfl,show ((((13:Nat):Int))==3)=false from rfl,show ((((13:Nat):Int))==4)=false from rfl,show ((((13:Nat):Int))==5)=false from rfl,show ((((13:Nat):Int))==6)=false from rfl,show ((((13:Nat):Int))==7)=false from rfl,show ((((13:Nat):Int))==8)=false from rfl,show ((((13:Nat):Int))==9)=false from rfl,show ((((13:Nat):Int))==10)=false from rfl,show ((((13:Nat):Int))==11)=false from rfl,show ((((13:Nat):Int))==12)=false from rfl,show ((((13:Nat):Int))==13)=true from rfl,jR,jS]
  obtain ⟨x,hx,g4⟩:=bH hb hl (p:=p+1+1+1) (n:=2) (by omega) (by omega) (by omega) (by omega)
  obtain ⟨v,v1,v2⟩:=CK [Go.Ev.bs #[110,111,110,101],Go.Ev.bs #[]] (by intro s hs;simp only[List.mem_cons,List.not_mem_nil,or_false] at hs;rcases hs with rfl|rfl<;>first|assumption|decide) (x:=x) (by simp only[List.length_cons,List.length_nil];omega)
  simp only[List.map_cons,List.map_nil,sE] at v1
  have l1:((x:Nat):Int)<((2:Nat):Int):=by omega
  have st:(f.cps.map Cp.e).set n (aL ((f.cps.map Cp.e).getD n []) 1 [.s v])=(f.cps.set n {f.cps[n] with svc:=v}).map Cp.e:=sj hn' rfl
  simp only[g4,call3,ad,jI,jC,jD,C.I_i,jX,decide_true,jR,rows,List.length_cons,List.length_nil,Nat.zero_add,Nat.reduceAdd,jY,ao,l1,v1,ltL hn',st]
  exact ⟨{f with cps:=f.cps.set n {f.cps[n] with svc:=v}},p+1+1+1+1,rfl,uf hz (b:= {f.cps[n] with svc:=v}) ⟨hcn.1,Nat.le_trans v2 (by decide),hcn.2.2.1,hcn.2.2.2.1,hcn.2.2.2.2.1,hcn.2.2.2.2.2.1,hcn.2.2.2.2.2.2⟩ n,by omega,by omega⟩
 ·simp only[show ((((14:Nat):Int))==0)=false from rfl,show ((((14:Nat):Int))==1)=false from rfl,show ((((14:Nat):Int))==2)=false from rfl,show ((((14:Nat):Int))==3)=false from rfl,show ((((14:Nat):Int))==4)=false from rfl,show ((((14:Nat):Int))==5)=false from rfl,show ((((14:Nat):Int))==6)=false from rfl,show ((((14:Nat):Int))==7)=false from rfl,show ((((14:Nat):Int))==8)=false from rfl,show ((((14:Nat):Int))==9)=false from rfl,show ((((14:Nat):Int))==10)=false from rfl,show ((((14:Nat):Int))==11)=false from rfl,show ((((14:Nat):Int))==12)=false from rfl,show ((((14:Nat):Int))==13)=false from rfl,show ((((14:Nat):Int))==14)=true from rfl,jR,jS]
  obtain ⟨x,hx,g4⟩:=bH hb hl (p:=p+1+1+1) (n:=2) (by omega) (by omega) (by omega) (by omega)
  have w5:w64 (10+(x:Int))=((10+x:Nat):Int):=by rw[aP (by omega) (by omega)];omega
  obtain ⟨l',q1,q2,q3⟩:=Jz (bs:=bs) f.pack f.bts (f.svs.map Sv.e) hk' hbk0.1 (p+1+1+1+1) (10+x) (by omega) (10+x) [] (by simp) (fun c hc=>by simp at hc)
  simp only[List.map_nil,List.length_nil,Int.natCast_zero] at q1
  simp only[g4,call3,ad,jI,jC,jD,C.I_i,jX,decide_true,jR,rows,List.length_cons,List.length_nil,Nat.zero_add,Nat.reduceAdd,jY,ao,w5,q1,aC,bI.d2,apL,C.L_l]
  exact ⟨{f with cps:=l'},_,rfl,⟨hz.up.1,hz.up.2.1,by show l'.length≤_;omega,q3⟩,by omega,by omega⟩
 ·simp only[show ((((15:Nat):Int))==0)=false from rfl,show ((((15:Nat):Int))==1)=false from rfl,show ((((15:Nat):Int))==2)=false from rfl,show ((((15:Nat):Int))==3)=false from rfl,show ((((15:Nat):Int))==4)=false from rfl,show ((((15:Nat):Int))==5)=false from rfl,show ((((15:Nat):Int))==6)=false from rfl,show ((((15:Nat):Int))==7)=false from rfl,show ((((15:Nat):Int))==8)=false from rfl,show ((((15:Nat):Int))==9)=false from rfl,show ((((15:Nat):Int))==10)=false from rfl,show ((((15:Nat):Int))==11)=false from rfl,show ((((15:Nat):Int))==12)=false from rfl,show ((((15:Nat):Int))==13)=false from rfl,show ((((15:Nat):Int))==14)=false from rfl,jR,jS]
  obtain ⟨x,hx,g4⟩:=bH hb hl (p:=p+1+1+1) (n:=2) (by omega) (by omega) (by omega) (by omega)
  obtain ⟨v,v1,v2⟩:=CK [Go.Ev.bs #[65],Go.Ev.bs #[119,101,98]] (by intro s hs;simp only[List.mem_cons,List.not_mem_nil,or_false] at hs;rcases hs with rfl|rfl<;>first|assumption|decide) (x:=x) (by simp only[List.length_cons,List.length_nil];omega)
  simp only[List.map_cons,List.map_nil,sE] at v1
  have l1:((x:Nat):Int)<((2:Nat):Int):=by omega
  obtain ⟨y,hy,g5⟩:=bH hb hl (p:=p+1+1+1+1) (n:=2) (by omega) (by omega) (by omega) (by omega)
  obtain ⟨u,u1,u2⟩:=CK [Go.Ev.bs #[120,32,121],Go.Ev.bs #[98,48]] (by intro s hs;simp only[List.mem_cons,List.not_mem_nil,or_false] at hs;rcases hs with rfl|rfl<;>first|assumption|decide) (x:=y) (by simp only[List.length_cons,List.length_nil];omega)
  simp only[List.map_cons,List.map_nil,sE] at u1
  have l2:((y:Nat):Int)<((2:Nat):Int):=by omega
  have st:(f.cps.map Cp.e).set n (aL ((f.cps.map Cp.e).getD n []) 9 [.s v])=(f.cps.set n {f.cps[n] with near:=v}).map Cp.e:=sj hn' rfl
  have hn2:n<(f.cps.set n {f.cps[n] with near:=v}).length:=by rw[List.length_set];exact hn'
  have st2:((f.cps.set n {f.cps[n] with near:=v}).map Cp.e).set n (aL (((f.cps.set n {f.cps[n] with near:=v}).map Cp.e).getD n []) 10 [.s u])=(f.cps.set n {f.cps[n] with near:=v,fixed:=u}).map Cp.e:=by
   rw[sj (b:= {f.cps[n] with near:=v,fixed:=u}) hn2 (by rw[List.getElem_set_self];rfl),List.set_set]
  simp only[g4,g5,call3,ad,jI,jC,jD,C.I_i,jX,decide_true,jR,rows,List.length_cons,List.length_nil,Nat.zero_add,Nat.reduceAdd,jY,ao,l1,l2,v1,u1,ltL hn',st,jW,List.length_set,st2]
  exact ⟨{f with cps:=f.cps.set n {f.cps[n] with near:=v,fixed:=u}},p+1+1+1+1+1,rfl,uf hz (b:= {f.cps[n] with near:=v,fixed:=u}) ⟨hcn.1,hcn.2.1,hcn.2.2.1,Nat.le_trans v2 (by decide),Nat.le_trans u2 (by decide),hcn.2.2.2.2.2.1,hcn.2.2.2.2.2.2⟩ n,by omega,by omega⟩
end
end Go.Ev
namespace Go.Ev
section
variable {bs:List (List C)} (hb:BY bs) (hl:bs.length≤2000)
include hb hl
theorem Gb {p:Int} (h0:0≤p) (h1:p≤1125899906842624-100000):
  ∃(f:Fl) (p':Int),oB [.l bs,.i p]=some (f.e++[.l bs,.i p'])∧f.Sz 1048576∧p≤p'∧p'≤p+50000:=by
 obtain ⟨k,hk,g1⟩:=bH hb hl h0 (show p≤1125899906842624 by omega) (n:=12) (by omega) (by omega)
 simp only[oB,oB.d1,apL,jC,jD,g1,call3,jI,C.I_i]
 cases hq:((k:Int)==0) with
 |true=>
  obtain ⟨f,p',q1,q2,q3,q4⟩:=GW hb hl (p:=p+1) (by omega) (by omega)
  refine ⟨f,p',?_,q2.up,by omega,by omega⟩
  simp only[jR,q1,call6,jI,jC,jD,C.L_l,jV]
  rfl
 |false=>
  obtain ⟨f,p1,q1,q2,q3,q4,q5⟩:=Ic hb hl (p:=p+1) (by omega) (by omega)
  obtain ⟨m,hm,g2⟩:=bH hb hl (p:=p1) (n:=16) (by omega) (by omega) (by omega) (by omega)
  have q1':aH [.l bs,.i (p+1)]=some [.b f.pack,.l (f.bts.map Bt.e),.l (f.svs.map Sv.e),.l (f.cps.map Cp.e),.l bs,.i p1]:=q1
  simp only[jS,q1',call6,jI,jC,jD,C.L_l,g2,call3,C.I_i]
  cases hm0:((m:Int)==0) with
  |true=>
   obtain ⟨g,p2,r1,r2,r3,r4⟩:=Gl hb hl q2 q3.1 q3.2 (p:=p1+1) (by omega) (by omega)
   have r1':bI [.b f.pack,.l (f.bts.map Bt.e),.l (f.svs.map Sv.e),.l (f.cps.map Cp.e),.l bs,.i (p1+1)]=some (spR bs g p2):=r1
   refine ⟨g,p2,?_,r2,by omega,by omega⟩
   simp only[jR,r1',spR,call6,jI,jC,jD,C.L_l,jV]
   rfl
  |false=>
   refine ⟨f,p1+1,?_,q2.up,by omega,by omega⟩
   simp only[jS,jV]
   rfl
end
theorem Hy {A:List (List C)} (hA:BY A):∃bs:List (List C),lD [.l A]=some [.l bs,.i 0]∧BY bs∧bs.length≤2000:=by
 simp only[lD,lD.d1,apL,jC,C.L_l]
 by_cases h:(A.length:Int)>2000
 ·have h2:(2000:Int)≤(A.length:Int):=by omega
  refine ⟨(A.take 2000).drop 0,?_,?_,?_⟩
  ·simp only[h,h2,decide_true,jR,jV]
  ·exact fun r hr=>hA r (List.mem_of_mem_take (List.mem_of_mem_drop hr))
  ·rw[List.drop_zero,List.length_take];omega
 ·refine ⟨A,?_,hA,by omega⟩
  simp only[h,decide_false,jS,jV]
end Go.Ev
set_option maxHeartbeats 1000000
namespace Go.Ev
theorem GY {f:Fl} (cn:Str) (hlc:f.cps.length≤1048576) (Z:List C) (hZ:Z=[.s (bs #[]),.s (bs #[]),.i 0,.i 0,.i 0,.i 0,.s (bs #[]),.i 0,.s (bs #[]),.s (bs #[]),.s (bs #[]),.l []]):∀d i,i+d=f.cps.length→
  (eA (fun x:Cp=>sEq x.name cn) (f.cps.drop i) i<0∧lim (Ci dR.d1) ([.s cn,.i (i:Nat)]++f.e++Z)=some (.brk 0 Z))∨
  ∃k,∃hk:k<f.cps.length,eA (fun x:Cp=>sEq x.name cn) (f.cps.drop i) i=(k:Nat)∧lim (Ci dR.d1) ([.s cn,.i (i:Nat)]++f.e++Z)=some (.ret (f.cps[k].e++[.b true])):=by
 intro d
 subst hZ
 induction d with
 |zero=>
  intro i hi
  left
  have e:f.cps.drop i=[]:=List.drop_eq_nil_of_le (by omega)
  refine ⟨by rw[e];simp[eA],aQ ?_⟩
  have:¬((i:Int)<(f.cps.length:Int)):=by omega
  simp only[Fl.e,jA,jB,apL,jC,jD,dR.d1,C.I_i,C.L_l,jW,this,decide_false,jS]
 |succ d ih=>
  intro i hi
  have hlt:i<f.cps.length:=by omega
  have hd:f.cps.drop i=f.cps[i]::f.cps.drop (i+1):=List.drop_eq_getElem_cons hlt
  have stp:Ci dR.d1 ([.s cn,.i (i:Nat)]++f.e++[.s (bs #[]),.s (bs #[]),.i 0,.i 0,.i 0,.i 0,.s (bs #[]),.i 0,.s (bs #[]),.s (bs #[]),.s (bs #[]),.l []])=bif sEq f.cps[i].name cn then some (.ret (f.cps[i].e++[.b true])) else some (.again ([.s cn,.i (i+1:Nat)]++f.e++[.s (bs #[]),.s (bs #[]),.i 0,.i 0,.i 0,.i 0,.s (bs #[]),.i 0,.s (bs #[]),.s (bs #[]),.s (bs #[]),.l []])):=by
   have hl2:f.cps.length<big:=by simp only[big];omega
   simp only[Fl.e,jA,jB,apL,jC,jD,dR.d1,C.I_i,C.L_l,C.S_s,jW,ltL hlt,jX,decide_true,jR,jY,w1 hlt hl2]
   rw[getD_map' Cp.e hlt]
   simp only[Cp.e,jC,jD,C.S_s,sEq,jA,jB]
  rw[hd]
  cases hq:sEq f.cps[i].name cn with
  |true=>
   right
   refine ⟨i,hlt,by simp[eA,hq],ml ?_⟩
   rw[stp,hq];rfl
  |false=>
   have e:eA (fun x:Cp=>sEq x.name cn) (f.cps[i]::f.cps.drop (i+1)) i=eA (fun x:Cp=>sEq x.name cn) (f.cps.drop (i+1)) (i+1):=by simp[eA,hq]
   rw[e,aG (by rw[stp,hq];rfl)]
   exact ih (i+1) (by omega)
theorem qt {f:Fl} (cn:Str) (hlc:f.cps.length≤1048576):∃(c:Cp) (ok:Bool),dR (f.e++[.s cn])=some (c.e++[.b ok])∧((ok=false∧cIx f cn<0)∨(ok=true∧∃k,∃hk:k<f.cps.length,cIx f cn=(k:Nat)∧c=f.cps[k])):=by
 have:=GY (f:=f) cn hlc _ rfl f.cps.length 0 (by omega)
 rw[List.drop_zero] at this
 simp only[Fl.e,jA,jB,Int.natCast_zero] at this
 rcases this with ⟨h1,h2⟩|⟨k,hk,h1,h2⟩
 ·refine ⟨⟨bs #[],bs #[],0,0,0,0,bs #[],[],0,bs #[],bs #[],bs #[]⟩,false,?_,.inl ⟨rfl,h1⟩⟩
  simp only[dR,dR.d3,Fl.e,jA,jB,apL,jC,jD,ao,h2,aC,dR.d2,jV]
  rfl
 ·refine ⟨f.cps[k],true,?_,.inr ⟨rfl,k,hk,h1,rfl⟩⟩
  simp only[dR,dR.d3,Fl.e,jA,jB,apL,jC,jD,ao,h2,uw,jV]
end Go.Ev
namespace Go.Ev
theorem y6 (f:Fl) (c:Cp) (b:Bt):cS f c b false=bif b.shut then 1 else cS f c b true:=by
 unfold cS
 cases b.shut<;>rfl
theorem Bc {p q:Cp→Bool} {g:Cp→Int} {l m:List Cp} (hl:l.length=m.length) (h:∀i (h1:i<l.length) (h2:i<m.length),(bif p l[i] then g l[i] else 0)=(bif q m[i] then g m[i] else 0)):fk p g l=fk q g m:=by
 have h1:=zr (p:=p) (q:=q) (g:=g) hl fun i a b=>Int.le_of_eq (h i a b)
 have h2:=zr (p:=q) (q:=p) (g:=g) hl.symm fun i a b=>Int.le_of_eq (h i b a).symm
 omega
theorem jh (c:Cp):oth c c=false:=by unfold oth;rw[(bV _ _).2 rfl];rfl
section
variable {f:Fl} (h:VF f) {i:Nat} (hi:i<f.cps.length) (b:Bt)
include h hi
theorem fD {nm:Str} {k:Nat} (h1:k<(setAt f i f.cps[i] nm).cps.length) (h2:k<f.cps.length):(setAt f i f.cps[i] nm).cps[k]=if i=k then {f.cps[i] with at_:=nm} else f.cps[k]:=by
 simp only[setAt,List.getElem_set]
theorem rE {k:Nat} (hk:k<f.cps.length) (hne:i≠k):sEq f.cps[k].name f.cps[i].name=false:=by
 cases q:sEq f.cps[k].name f.cps[i].name with
 |false=>rfl
 |true=>
  exfalso
  have hu:=j6 (eV h)
  have hlt:∀a b (ha:a<f.cps.length) (hb:b<f.cps.length),a<b→f.cps[a].name≠f.cps[b].name:=fun a b ha hb hab he=>by
   have:∀n,∀(hb:a+1+n<f.cps.length),sLt f.cps[a].name f.cps[a+1+n].name=true:=fun n=>by
    induction n with
    |zero=>intro hb;exact (h.cp (a+1) hb).2.2.1 (by omega)
    |succ n ih=>
     intro hb
     exact jm (ih (by omega)) ((h.cp (a+1+(n+1)) hb).2.2.1 (by omega))
   have h1:=this (b-a-1) (by omega)
   have e:a+1+(b-a-1)=b:=by omega
   simp only[e] at h1
   rw[he,Am] at h1;cases h1
  have he:=(bV _ _).1 q
  rcases Nat.lt_or_gt_of_ne hne with h1|h1
  ·exact hlt i k hi hk h1 he.symm
  ·exact hlt k i hk hi h1 he
theorem Ae (nm:Str) {p q:Cp→Bool} (h0:p f.cps[i]=false) (h1:q {f.cps[i] with at_:=nm}=false) (ho:∀k (hk:k<f.cps.length),i≠k→p f.cps[k]=q f.cps[k]):(setAt f i f.cps[i] nm).cps.any q=f.cps.any p:=by
 have hl:(setAt f i f.cps[i] nm).cps.length=f.cps.length:=by simp[setAt]
 rw[Bool.eq_iff_iff,List.any_eq_true,List.any_eq_true]
 constructor
 ·rintro ⟨x,hx,hq⟩
  obtain ⟨k,hk,rfl⟩:=List.getElem_of_mem hx
  have hk':k<f.cps.length:=by omega
  rw[fD h hi hk hk'] at hq
  split at hq
  ·rw[h1] at hq;cases hq
  ·rename_i hne
   exact ⟨_,List.getElem_mem hk',by rw[ho k hk' hne];exact hq⟩
 ·rintro ⟨x,hx,hp⟩
  obtain ⟨k,hk,rfl⟩:=List.getElem_of_mem hx
  by_cases hne:i=k
  ·subst hne;rw[h0] at hp;cases hp
  ·have hk':k<(setAt f i f.cps[i] nm).cps.length:=by omega
   refine ⟨_,List.getElem_mem hk',?_⟩
   rw[fD h hi hk' hk,if_neg hne,←ho k hk hne];exact hp
theorem DR (nm:Str) (w:Cp→Int):fk (onP {f.cps[i] with at_:=nm} b) w (setAt f i f.cps[i] nm).cps=fk (onP f.cps[i] b) w f.cps:=by
 refine Bc (by simp[setAt]) fun k h1 h2=>?_
 rw[fD h hi h1 h2]
 split
 ·rename_i e
  subst e
  have e1:onP {f.cps[i] with at_:=nm} b {f.cps[i] with at_:=nm}=false:=by unfold onP;rw[jh];rfl
  have e2:onP f.cps[i] b f.cps[i]=false:=by unfold onP;rw[jh];rfl
  rw[e1,e2];rfl
 ·rfl
theorem D8 (nm:Str) (o:Bool):cS (setAt f i f.cps[i] nm) {f.cps[i] with at_:=nm} b o=cS f f.cps[i] b o:=by
 have hz:∀s,dN (setAt f i f.cps[i] nm) s=dN f s:=fun _=>rfl
 have ho:∀x,oth {f.cps[i] with at_:=nm} x=oth f.cps[i] x:=fun _=>rfl
 have e1:(setAt f i f.cps[i] nm).cps.any (iH (setAt f i f.cps[i] nm) {f.cps[i] with at_:=nm} b)=f.cps.any (iH f f.cps[i] b):=
  Ae h hi nm (by unfold iH;rw[jh];rfl) (by unfold iH;rw[jh];rfl) fun k hk _=>by unfold iH;rw[hz,ho]
 have e2:mH (setAt f i f.cps[i] nm) {f.cps[i] with at_:=nm} b=mH f f.cps[i] b:=by
  unfold mH
  have a1:(setAt f i f.cps[i] nm).cps.any (iP (setAt f i f.cps[i] nm) {f.cps[i] with at_:=nm} b)=f.cps.any (iP f f.cps[i] b):=
   Ae h hi nm (by unfold iP;rw[jh];rfl) (by unfold iP;rw[jh];rfl) fun k hk _=>by unfold iP;rw[hz,ho]
  have a2:(setAt f i f.cps[i] nm).cps.any (lZ {f.cps[i] with at_:=nm} f.cps[i].near)=f.cps.any (lZ f.cps[i] f.cps[i].near):=
   Ae h hi nm (by unfold lZ;rw[jh];rfl) (by unfold lZ;rw[jh];rfl) fun k hk _=>by unfold lZ;rw[ho]
  simp only[a1,a2]
 have e3:fp (onP {f.cps[i] with at_:=nm} b) (setAt f i f.cps[i] nm).cps (setAt f i f.cps[i] nm).cps.length=fp (onP f.cps[i] b) f.cps f.cps.length:=by
  have:=DR h hi b nm (fun _=>1)
  rw[←kq,←kq] at this
  omega
 have e4:∀w:Cp→Int,cy (onP {f.cps[i] with at_:=nm} b) w (setAt f i f.cps[i] nm).cps (setAt f i f.cps[i] nm).cps.length=cy (onP f.cps[i] b) w f.cps f.cps.length:=fun w=>by
  rw[hD,hD];exact DR h hi b nm w
 unfold cS
 simp only[e1,e2,e3,e4]
end
end Go.Ev
namespace Go.Ev
section
variable {bs:List (List C)} (hb:BY bs) (hl:bs.length≤2000)
include hb hl
end
end Go.Ev
namespace Go.Ev
theorem CM (L:List Str) (hl:L.length≤1048576):eE [.l (L.map sE),.l (L.map sE)]=some [.b true]:=by
 have hb:L.length<big:=by simp only[big];omega
 have h:=cD (body:=ap3 eE.d1) (S:=fun i=>[.l (L.map sE),.l (L.map sE),.i (i:Nat)]) (n:=L.length) (b:=0) (ys:=[])
  (fun i hi=>by
   simp only[apL,jC,jD,eE.d1,C.I_i,C.L_l,jW,ltL hi,jX,decide_true,jR,jY,w1 hi hb]
   rw[getD_map' sE hi]
   simp only[sE,jC,C.S_s,beq_self_eq_true,jZ,jS])
  (by simp[eE.d1]) L.length 0 rfl
 have e:((L.length:Int) !=(L.length:Int))=false:=by simp
 simp only[Int.natCast_zero] at h
 simp only[eE,eE.d3,apL,jC,jD,C.L_l,jW,e,jS,h,aC,eE.d2,jV]
end Go.Ev
namespace Go.Ev
end Go.Ev
namespace Go.Ev
theorem nB (f:Fl) (c:Cp) (b:Bt):cS f c b true=0↔((!sEq c.fixed (mkS [])&&!sEq c.fixed b.name)=false∧pg c.sel b=true∧f.cps.any (iH f c b)=false∧mH f c b=false∧fp (onP c b) f.cps f.cps.length<10∧¬b.room<cy (onP c b) Cp.room f.cps f.cps.length+c.room∧¬b.hold<cy (onP c b) Cp.hold f.cps f.cps.length+c.hold):=by
 unfold cS
 rw[show (b.shut&&!true)=false by simp,jS]
 cases q2: !sEq c.fixed (mkS [])&&!sEq c.fixed b.name
 ·cases q3:pg c.sel b
  ·simp
  ·cases q4:f.cps.any (iH f c b)
   ·cases q5:mH f c b
    ·simp only[jZ,jS,true_and]
     cases q6:decide (10≤fp (onP c b) f.cps f.cps.length)
     ·have q6':=of_decide_eq_false q6
      cases q7:decide (b.room<cy (onP c b) Cp.room f.cps f.cps.length+c.room)
      ·have q7':=of_decide_eq_false q7
       cases q8:decide (b.hold<cy (onP c b) Cp.hold f.cps f.cps.length+c.hold)
       ·have q8':=of_decide_eq_false q8
        simp only[jS,true_iff]
        exact ⟨by omega,q7',q8'⟩
       ·have q8':=of_decide_eq_true q8
        simp only[jR,jS]
        constructor
        ·intro h;omega
        ·intro h;exact absurd q8' h.2.2
      ·have q7':=of_decide_eq_true q7
       simp only[jR,jS]
       constructor
       ·intro h;omega
       ·intro h;exact absurd q7' h.2.1
     ·have q6':=of_decide_eq_true q6
      simp only[jR]
      constructor
      ·intro h;omega
      ·intro h;omega
    ·simp
   ·simp
 ·simp
theorem Ep {f:Fl} (h:VF f) {j:Nat} (hj:j<f.cps.length) {b:Bt} (hb:b∈f.bts) (ha:sEq f.cps[j].at_ b.name=true) (w:Cp→Int):fk (atP b.name) w f.cps=fk (onP f.cps[j] b) w f.cps+w f.cps[j]:=by
 have hbo:=(gU (eV h)).bb b hb
 have e:fk (onP f.cps[j] b) w f.cps=fk (atP b.name) w (f.cps.set j {f.cps[j] with at_:=mkS []}):=by
  refine Bc (by simp) fun k h1 h2=>?_
  rw[List.getElem_set]
  split
  ·rename_i e;subst e
   have e1:onP f.cps[j] b f.cps[j]=false:=by unfold onP;rw[jh];rfl
   have e2:atP b.name {f.cps[j] with at_:=mkS []}=false:=by unfold atP;rw[fL];exact gE hbo
   rw[e1,e2];rfl
  ·rename_i hne
   have e1:onP f.cps[j] b f.cps[k]=atP b.name f.cps[k]:=by
    unfold onP oth atP
    rw[rE h hj h1 hne]
    cases q:sEq f.cps[k].at_ b.name with
    |false=>simp
    |true=>rw[rM hbo _ q];rfl
   rw[e1]
 rw[e,xp hj]
 have e2:atP b.name {f.cps[j] with at_:=mkS []}=false:=by unfold atP;rw[fL];exact gE hbo
 have e3:atP b.name f.cps[j]=true:=ha
 rw[e2,e3]
 simp only[jR,jS]
 omega
end Go.Ev
namespace Go.Ev
theorem DF {f:Fl} (hv:bP f=true) {b:Bt} (hb:b∈f.bts):dN f b.name=b.zone:=by
 obtain ⟨k,hk,e1,e2⟩:=nj hv hb
 have n0:¬((k:Int)<0):=by omega
 simp only[dN,e1,n0,if_false,jY,List.getElem?_eq_getElem hk,e2]
section
variable {g:Fl} (h:VF g) {i:Nat} (hi:i<g.cps.length) {b:Bt} (hb:b∈g.bts) (hw:sEq g.cps[i].at_ (mkS [])=true) (hfit:cS g g.cps[i] b false=0) {j:Nat} (hj:j<g.cps.length) (hne:i≠j) {b':Bt} (hb':b'∈g.bts) (ha:sEq g.cps[j].at_ b'.name=true) (h0:cS g g.cps[j] b' true=0)
include h hi hb hw hfit hj hne hb' ha h0
theorem GH:(setAt g i g.cps[i] b.name).cps.any (iH (setAt g i g.cps[i] b.name) g.cps[j] b')=false:=by
 have hv:=eV h
 have hbo':=(gU hv).bb b' hb'
 have ft:cS g g.cps[i] b true=0:=by
  rw[y6] at hfit
  cases hs:b.shut with
  |true=>rw[hs] at hfit;cases hfit
  |false=>rw[hs] at hfit;exact hfit
 have t1:=((nB _ _ _).1 ft).2.2.1
 have t2:=((nB _ _ _).1 h0).2.2.1
 rw[List.any_eq_false] at t1 t2⊢
 intro y hy
 obtain ⟨m,hm,rfl⟩:=List.getElem_of_mem hy
 have hm':m<g.cps.length:=by simpa [setAt] using hm
 rw[fD h hi hm hm']
 have hz:∀s,dN (setAt g i g.cps[i] b.name) s=dN g s:=fun _=>rfl
 split
 ·rename_i e;subst e
  have q:=t1 _ (List.getElem_mem hj)
  have o1:oth g.cps[i] g.cps[j]=true:=by
   unfold oth
   rw[rE h hi hj hne,rM hbo' _ ha];rfl
  have e1:=(bV _ _).1 ha
  simp only[iH,o1,Bool.true_and,e1,DF hv hb'] at q
  simp only[iH,hz,DF hv hb]
  intro hc
  apply q
  simp only[Bool.and_eq_true,Bool.or_eq_true] at hc⊢
  obtain ⟨c1,c2,c3⟩:=hc
  refine ⟨by rw[fL];exact c2,?_⟩
  rcases c3 with ⟨d1,d2⟩|⟨d1,d2⟩
  ·exact .inl ⟨by rw[fL];exact d1,d2.symm⟩
  ·exact .inr ⟨by rw[fL];exact d1,d2.symm⟩
 ·have q:=t2 _ (List.getElem_mem hm')
  simpa only[iH,hz] using q
theorem Gq (hns:sEq g.cps[j].near g.cps[j].svc=false):mH (setAt g i g.cps[i] b.name) g.cps[j] b'=false:=by
 have t:=((nB _ _ _).1 h0).2.2.2.1
 unfold mH at t⊢
 rw[hns] at t⊢
 cases hn:sEq g.cps[j].near (mkS []) with
 |true=>rfl
 |false=>
  rw[hn] at t
  simp only[ja,Bool.true_and,Bool.or_true,Bool.and_true,Bool.not_eq_false'] at t⊢
  rw[List.any_eq_true] at t⊢
  obtain ⟨y,hy,hq⟩:=t
  obtain ⟨m,hm',rfl⟩:=List.getElem_of_mem hy
  have hmi:i≠m:=fun e=>by
   subst e
   have hw':sEq g.cps[i].at_ (mkS [])=true:=hw
   simp only[iP,oth,hw',jZ,Bool.and_false,Bool.false_and] at hq
   cases hq
  have hm:m<(setAt g i g.cps[i] b.name).cps.length:=by simpa [setAt] using hm'
  refine ⟨_,List.getElem_mem hm,?_⟩
  rw[fD h hi hm hm',if_neg hmi]
  exact hq
theorem Cb (hns:sEq g.cps[j].near g.cps[j].svc=false):cS (setAt g i g.cps[i] b.name) g.cps[j] b' true=0:=by
 have hv':=uE h hi hw hb hfit
 have hj':j<(setAt g i g.cps[i] b.name).cps.length:=by simpa [setAt] using hj
 have hgj:(setAt g i g.cps[i] b.name).cps[j]=g.cps[j]:=by rw[fD h hi hj' hj,if_neg hne]
 have S:=fun w=>Ep hv' hj' (b:=b') hb' (by rw[hgj];exact ha) w
 have F:=hv'.fit b' hb'
 have s1:=S Cp.room
 have s2:=S Cp.hold
 have s3:=S (fun _=>1)
 rw[hgj] at s1 s2 s3
 obtain ⟨a1,a2,_⟩:=(nB _ _ _).1 h0
 rw[nB]
 refine ⟨a1,a2,GH h hi hb hw hfit hj hne hb' ha h0,Gq h hi hb hw hfit hj hne hb' ha h0 hns,?_,?_,?_⟩
 ·have:=kq (onP g.cps[j] b') (setAt g i g.cps[i] b.name).cps
  omega
 ·rw[hD];omega
 ·rw[hD];omega
end
end Go.Ev
namespace Go.Ev
structure PlI (f0 g:Fl) (n:Nat):Prop where
 b:g.bts=f0.bts
 s:g.svs=f0.svs
 p:g.pack=f0.pack
 l:g.cps.length=f0.cps.length
 c:∀i (h1:i<g.cps.length) (h2:i<f0.cps.length),g.cps[i].name=f0.cps[i].name∧(cQ f0.cps[i]=false→g.cps[i]=f0.cps[i])
 n:(waits g).length+n=(waits f0).length
 r:DJ f0=[]→∀i (h1:i<g.cps.length),cQ g.cps[i]=false→sEq g.cps[i].near g.cps[i].svc=false→∀b',b'∈g.bts→sEq g.cps[i].at_ b'.name=true→cS g g.cps[i] b' true=0
theorem FH {f:Fl} (hv:bP f=true) {b b':Bt} (hb:b∈f.bts) (hb':b'∈f.bts) (h:sEq b.name b'.name=true):b=b':=by
 obtain ⟨k,hk,e1,e2⟩:=nj hv hb
 obtain ⟨k',hk',e1',e2'⟩:=nj hv hb'
 rw[(bV _ _).1 h,e1'] at e1
 have:k'=k:=by omega
 subst this
 rw[←e2,←e2']
theorem F9 {f0 g:Fl} {n:Nat} (P:PlI f0 g n) (hv:VF g) {x:Stp} (F:po g x):PlI f0 (plF g x) (n+1):=by
 have hV:=eV hv
 rw[F.put]
 have hl:(setAt g F.i (g.cps[F.i]'F.hi) F.b.name).cps.length=g.cps.length:=by simp[setAt]
 have hw:cQ (g.cps[F.i]'F.hi)=true:=F.w
 have hbo:=(gU hV).bb _ F.hb
 have ft:cS g (g.cps[F.i]'F.hi) F.b true=0:=by
  have:=F.fit
  rw[y6] at this
  cases hs:F.b.shut with
  |true=>rw[hs] at this;cases this
  |false=>rw[hs] at this;exact this
 refine ⟨P.b,P.s,P.p,by rw[hl];exact P.l,fun i h1 h2=>?_,?_,fun hr i h1 hst hns b' hb' ha=>?_⟩
 ·have h1':i<g.cps.length:=by omega
  obtain ⟨p1,p2⟩:=P.c i h1' h2
  rw[fD hv F.hi h1 h1']
  split
  ·rename_i e
   subst e
   refine ⟨p1,fun hq=>?_⟩
   rw[p2 hq] at hw
   rw[hw] at hq;cases hq
  ·exact ⟨p1,p2⟩
 ·have hn:cQ {g.cps[F.i]'F.hi with at_:=F.b.name}=false:=gE hbo
  have hp:0<g.cps.countP cQ:=List.countP_pos_iff.2 ⟨_,List.getElem_mem F.hi,hw⟩
  have:=P.n
  simp only[waits,setAt,←List.countP_eq_length_filter] at this⊢
  rw[List.countP_set F.hi,hn,hw]
  simp
  omega
 ·have h1':i<g.cps.length:=by omega
  rw[fD hv F.hi h1 h1'] at hst hns ha⊢
  have hb'':b'∈g.bts:=hb'
  split
  ·rename_i e
   subst e
   rw[if_pos rfl] at ha
   have e:=FH hV F.hb hb'' ha
   subst e
   rw[D8 hv F.hi F.b F.b.name true]
   exact ft
  ·rename_i hne
   rw[if_neg hne] at hst hns ha
   exact Cb hv F.hi F.hb F.w F.fit h1' hne hb'' ha (P.r hr i h1' hst hns b' hb'' ha) hns
theorem JL {f:Fl} (hv:bP f=true):PlI f f 0:=by
 refine ⟨rfl,rfl,rfl,rfl,fun i h1 h2=>⟨rfl,fun _=>rfl⟩,rfl,fun hr i h1 hst hns b' hb' ha=>?_⟩
 simp only[DJ,hv,jR,FF,List.take_length,List.map_eq_nil_iff,List.filter_eq_nil_iff] at hr
 have h:=hr _ (List.getElem_mem h1)
 obtain ⟨k,hk,e1,e2⟩:=nj hv hb'
 have ea:f.cps[i].at_=b'.name:=(bV _ _).1 ha
 have hst':sEq f.cps[i].at_ (mkS [])=false:=hst
 have hne:=gE ((gU hv).bb _ hb')
 simp only[Gw,hst',ja,Bool.true_and,ea,hne,e1,jY,List.getElem?_eq_getElem hk,e2] at h
 simpa using h
theorem Et (f0:Fl):∀(k:Nat) (f:Fl) (s:List Sp),VF f→PlI f0 f s.length→(waits f).length≤k→PlI f0 (place k f s).1 (place k f s).2.length∧VF (place k f s).1∧ku (place k f s).1=none:=by
 intro k
 induction k with
 |zero=>
  intro f s hv hP hk
  exact ⟨hP,hv,B8 hv (by show (waits f).length=0;omega)⟩
 |succ k ih=>
  intro f s hv hP hk
  cases hx:ku f with
  |none=>rw[oh hx];exact ⟨hP,hv,hx⟩
  |some x=>
   obtain ⟨F⟩:=lG hv hx
   have h1:=F.less hv
   have:=ih (plF f x) (s++[stS x]) (F.valid hv) (by rw[List.length_append];exact F9 hP hv F) (by omega)
   simp only[place,hx]
   exact this
end Go.Ev
namespace Go.Ev
theorem zD {A:List (List C)} (hA:BY A):∃f:Fl,eF [.l A]=some f.e∧f.Sz 1048576:=by
 obtain ⟨bs,g0,hb,hl⟩:=Hy hA
 obtain ⟨f,p',g1,hz,h2,h3⟩:=Gb hb hl (p:=0) (by omega) (by omega)
 refine ⟨f,?_,hz⟩
 simp only[Fl.e,jA,jB] at g1
 simp only[eF,eF.d1,apL,jC,jD,g0,g1,call2,call6,jI,jV]
 rfl
theorem Fs {f:Fl} (hz':f.Sz 1048576):bX f.e=some (yh (lU f)):=by
 have h3:=fA hz'
 simp only[fe] at h3
 simp only[bX,bX.d3,fe,apL,jC,jD,h3,ad,jI,C.B_b,lU]
 cases hv:bP f with
 |false=>rfl
 |true=>
  have a:=jj hz'
  have b:=sK hz' hv
  have c:=Bx (Dk hv) hz'
  rw[show (queue f).findSome? (sA f)=ku f from rfl,DH] at b
  simp only[fe] at a b
  simp only[spS,spT,List.map_nil] at c
  simp only[jZ,jS,jR,a,b,call4,jI,jC,jD,C.B_b,C.L_l,show ao=([]:List (List C)) from rfl,c,aC,apL,bX.d2,jV,yh]
theorem B0 {f:Fl} (hz':f.Sz 1048576):fH f.e=some (yh (lU f)):=by
 have h4:=u6 hz'
 simp only[fe] at h4
 simp only[fH,fH.d1,fe,apL,jC,jD,h4,ad,jI,C.B_b,lU]
 cases hv:bP f with
 |false=>rfl
 |true=>
  have a:=AP hz'
  have b:=BS (Dk hv) hz'
  simp only[fe] at a b
  simp only[jZ,jS,jR,a,b,plS,call4,call5,jI,jC,jD,C.B_b,C.L_l,jV,yh]
theorem G6 (s:Str):(s.toList==s.toList)=true:=beq_self_eq_true _
theorem neI (n:Int):(n !=n)=false:=by simp
theorem zn {b:Bt} (h:b.marks.length≤1048576):jy (b.e++b.e)=some [.b true]:=by
 have hn:=CM b.marks h
 simp only[jy,jy.d1,Bt.e,jA,jB,apL,jC,jD,C.S_s,C.I_i,C.B_b,G6,beq_self_eq_true,jR,hn,ad,jI,jV]
theorem AK {c:Cp} (h:c.likes.length≤1048576):fi (c.e++c.e)=some [.b true]:=by
 have hb:c.likes.length<big:=by simp only[big];omega
 have k:=cD (body:=Gg fi.d1) (S:=fun i=>[C.i (i:Nat)]++c.e++c.e) (n:=c.likes.length) (b:=0) (ys:=[])
  (fun i hi=>by
   simp only[Cp.e,jA,jB,apL,jC,jD,fi.d1,C.I_i,C.L_l,jW,ltL hi,jX,decide_true,jR,jY,w1 hi hb]
   rw[getD_map' Lk.e hi]
   simp only[Lk.e,jC,jD,C.S_s,C.I_i,G6,beq_self_eq_true,Bool.and_self,jZ,jS])
  (by simp[fi.d1,Cp.e]) c.likes.length 0 rfl
 simp only[Cp.e,jA,jB,Int.natCast_zero] at k
 simp only[fi,fi.d3,Cp.e,jA,jB,apL,jC,jD,C.S_s,C.I_i,C.L_l,G6,neI,jZ,ja,jR,jS,k,aC,fi.d2,jV]
theorem zM {g:Fl} (hz:g.Sz 1048576):bw (g.e++g.e)=some [.b true]:=by
 have hb1:g.bts.length<big:=by have:=hz.1.1;simp only[big];omega
 have hb2:g.svs.length<big:=by have:=hz.2.1.1;simp only[big];omega
 have hb3:g.cps.length<big:=by have:=hz.2.2.1;simp only[big];omega
 have k1:=cD (body:=ap9 bw.d1) (S:=fun i=>[C.i (i:Nat)]++g.e++g.e) (n:=g.bts.length) (b:=0) (ys:=g.e++g.e)
  (fun i hi=>by
   have hB:=zn (hz.1.2 _ (List.getElem_mem hi)).2.2.1
   simp only[Bt.e,jA,jB] at hB
   simp only[Fl.e,jA,jB,apL,jC,jD,bw.d1,C.I_i,C.L_l,jW,ltL hi,jX,decide_true,jR,jY,w1 hi hb1]
   rw[getD_map' Bt.e hi]
   simp only[Bt.e,jC,jD,hB,ad,jI,C.B_b,jZ,jS])
  (by simp[bw.d1,Fl.e]) g.bts.length 0 rfl
 have k2:=cD (body:=ap9 bw.d2) (S:=fun i=>[C.i (i:Nat)]++g.e++g.e) (n:=g.svs.length) (b:=2) (ys:=g.e++g.e)
  (fun i hi=>by
   simp only[Fl.e,jA,jB,apL,jC,jD,bw.d2,C.I_i,C.L_l,jW,ltL hi,jX,decide_true,jR,jY,w1 hi hb2]
   rw[getD_map' Sv.e hi]
   simp only[Sv.e,jC,jD,C.S_s,C.I_i,G6,beq_self_eq_true,Bool.and_self,jZ,jS])
  (by simp[bw.d2,Fl.e]) g.svs.length 0 rfl
 have k3:=cD (body:=ap9 bw.d3) (S:=fun i=>[C.i (i:Nat)]++g.e++g.e) (n:=g.cps.length) (b:=4) (ys:=[])
  (fun i hi=>by
   have hC:=AK (hz.2.2.2 _ (List.getElem_mem hi)).2.2.2.2.2.2.1
   simp only[Cp.e,jA,jB] at hC
   simp only[Fl.e,jA,jB,apL,jC,jD,bw.d3,C.I_i,C.L_l,jW,ltL hi,jX,decide_true,jR,jY,w1 hi hb3]
   rw[getD_map' Cp.e hi]
   simp only[Cp.e,jC,jD,hC,ad,jI,C.B_b,jZ,jS])
  (by simp[bw.d3,Fl.e]) g.cps.length 0 rfl
 simp only[Fl.e,jA,jB,Int.natCast_zero] at k1 k2 k3
 simp only[bw,bw.d7,Fl.e,jA,jB,apL,jC,jD,C.B_b,C.L_l,jW,neI,beq_self_eq_true,jZ,ja,jR,jS,k1,aC,bw.d6,k2,bw.d5,k3,bw.d4,jV]
end Go.Ev
namespace Go.Ev
section
variable {f g:Fl} {n:Nat} (hz:f.Sz 1048576) (gz:g.Sz 1048576) (hg:bP g=true) (P:PlI f g n) (hn:ku g=none)
include hz gz hg P hn
end
end Go.Ev
namespace Go.Ev
theorem FQ {l:List Cp} (nm:Str) {body:List C→R} {S:Nat→List C} (hs:∀i (h:i<l.length),body (S i)=if sLt l[i].name nm=true then some (.again (S (i+1))) else some (.brk 5 (S i))) (he:body (S l.length)=some (.brk 5 (S l.length))):
  ∀d i,i+d=l.length→∃j,j≤l.length∧(∀m (hm:m<l.length),i≤m→m<j→sLt l[m].name nm=true)∧(∀hj:j<l.length,sLt l[j].name nm=false)∧lim body (S i)=some (.brk 5 (S j))
 |0,i,h=>by
  have:i=l.length:=by omega
  subst this
  exact ⟨_,Nat.le_refl _,fun m hm h1 h2=>by omega,fun hj=>by omega,aQ he⟩
 |d+1,i,h=>by
  have hi:i<l.length:=by omega
  by_cases hc:sLt l[i].name nm=true
  ·obtain ⟨j,a,a1,a2,b⟩:=FQ nm hs he d (i+1) (by omega)
   refine ⟨j,a,fun m hm h1 h2=>?_,a2,by rw[aG (by rw[hs i hi,if_pos hc])];exact b⟩
   rcases Nat.lt_or_eq_of_le h1 with q|q
   ·exact a1 m hm q h2
   ·subst q;exact hc
  ·exact ⟨i,by omega,fun m hm h1 h2=>by omega,fun _=>by simpa using hc,aQ (by rw[hs i hi,if_neg hc])⟩
section
variable {f:Fl} (hz:f.Sz 1048576)
include hz
theorem HI {c:Cp} (hc:c.Sz 1048576) (h60:f.cps.length≤1000):
  ∃j,∃r:List Cp,j≤f.cps.length∧(∀m (hm:m<f.cps.length),m<j→sLt f.cps[m].name c.name=true)∧(∀hj:j<f.cps.length,sLt f.cps[j].name c.name=false)∧((r=f.cps.drop (j+1)∧∀hj:j<f.cps.length,sEq f.cps[j].name c.name=true)∨(r=f.cps.drop j∧∀hj:j<f.cps.length,sEq f.cps[j].name c.name=false))∧aF (f.e++ev3 c)=some [.b f.pack,.b true,.l (f.bts.map Bt.e),.l (f.svs.map Sv.e),.l ((f.cps.take j++[c]++r).map Cp.e)]:=by
 have hF:=jj hz
 have hco:=mJ hc.2.2.2.2.2.2.1
 have hlc:f.cps.length<big:=by simp only[big];omega
 obtain ⟨j,hj,hj1,hj2,h1⟩:=FQ (l:=f.cps) c.name (body:=tD aF.d6) (S:=fun i=>[C.i (i:Nat),.i 3]++E0++c.e++[.s (Go.Ev.bs #[]),.s (Go.Ev.bs #[]),.b false,.b f.pack,.l [],.l [],.l [],.l (f.bts.map Bt.e),.l (f.svs.map Sv.e),.l (f.cps.map Cp.e)])
  (fun i hi=>by
   simp only[E0,Cp.e,jA,jB,apL,jC,jD,aF.d6,C.I_i,C.L_l,C.S_s,jW,jY,ltL hi,decide_true,jR,jX,w1 hi hlc]
   rw[getD_map' Cp.e hi]
   simp only[Cp.e,jC,C.S_s]
   rw[show Op.bytesLess f.cps[i].name.toList c.name.toList=sLt f.cps[i].name c.name from rfl]
   cases sLt f.cps[i].name c.name<;>simp)
  (by simp[E0,Cp.e,aF.d6])
  f.cps.length 0 (by omega)
 have hrest:∃r:List Cp,((r=f.cps.drop (j+1)∧∀hj:j<f.cps.length,sEq f.cps[j].name c.name=true)∨(r=f.cps.drop j∧∀hj:j<f.cps.length,sEq f.cps[j].name c.name=false))∧tD aF.d8 ([C.i (j:Nat),.i 3]++E0++c.e++[.s (Go.Ev.bs #[]),.s (Go.Ev.bs #[]),.b false,.b f.pack,.l [],.l [],.l [],.l (f.bts.map Bt.e),.l (f.svs.map Sv.e),.l (f.cps.map Cp.e)])=some (.ret [.b f.pack,.b true,.l (f.bts.map Bt.e),.l (f.svs.map Sv.e),.l ((f.cps.take j++[c]++r).map Cp.e)]):=by
  have d7:∀r:List Cp,r.length≤f.cps.length→rr aF.d7 ([C.i (j:Nat),.l (r.map Cp.e),.i 3]++E0++c.e++[.s (Go.Ev.bs #[]),.s (Go.Ev.bs #[]),.b false,.b f.pack,.l (f.cps.map Cp.e),.l [],.l [],.l [],.l (f.bts.map Bt.e),.l (f.svs.map Sv.e)])=some (.ret [.b f.pack,.b true,.l (f.bts.map Bt.e),.l (f.svs.map Sv.e),.l ((f.cps.take j++[c]++r).map Cp.e)]):=fun r hr=>by
   have b1:(j:Int)≤(f.cps.length:Int):=by omega
   have b2:min j f.cps.length≤4294967296:=by omega
   have b3:min j f.cps.length+1≤4294967296:=by omega
   have b4:min j f.cps.length+1+r.length≤4294967296:=by omega
   simp only[Cp.e,Cp.o] at hco
   simp only[E0,Cp.e,jA,jB,apL,jC,jD,aF.d7,C.I_i,C.L_l,jW,jY,jX,decide_true,jR,hco,call12,jI,b1,List.drop_zero,ao,List.length_take,b2,Nat.zero_add,List.length_nil,List.length_append,rows,List.length_cons,b3,b4,List.map_append,List.map_cons,List.map_nil,List.map_take]
  by_cases hn:j<f.cps.length
  ·have hd:f.cps.drop j=f.cps[j]::f.cps.drop (j+1):=List.drop_eq_getElem_cons hn
   have hl1:(f.cps.drop (j+1)).length≤f.cps.length:=by rw[List.length_drop];omega
   have hb1:(j:Int)≤(f.cps.length:Int):=by omega
   have e1:((f.cps.map Cp.e).take (f.cps.length:Int).toNat).drop (j:Int).toNat=f.cps[j].e::(f.cps.drop (j+1)).map Cp.e:=by
    rw[jY,jY,List.take_of_length_le (by rw[jW];omega),←List.map_drop,hd];rfl
   cases hq:sEq f.cps[j].name c.name with
   |true=>
    refine ⟨f.cps.drop (j+1),.inl ⟨rfl,fun _=>hq⟩,?_⟩
    rw[←d7 _ hl1]
    have e2:(f.cps[j].name.toList==c.name.toList)=true:=hq
    have hbs:=e1
    simp only[Cp.e] at hbs
    simp only[E0,Cp.e,jA,jB,apL,jC,jD,aF.d8,C.I_i,C.L_l,C.S_s,jW,jX,decide_true,jR,hb1,Int.le_refl,hbs,List.length_cons,e2,jJ]
    have t1:(((f.cps.drop (j+1)).length+1:Nat):Int)>0:=by omega
    have t2:(0:Int)<(((f.cps.drop (j+1)).length+1:Nat):Int):=by omega
    have t3:(1:Int)≤(((f.cps.drop (j+1)).length+1:Nat):Int):=by omega
    simp only[t1,t2,t3,decide_true,jR,jJ,jY,List.take_succ_cons,List.drop_succ_cons,List.drop_zero]
    rw[List.take_of_length_le (by rw[jW];exact Nat.le_refl _)]
    rfl
   |false=>
    refine ⟨f.cps.drop j,.inr ⟨rfl,fun _=>hq⟩,?_⟩
    rw[←d7 _ (by rw[List.length_drop];omega)]
    have e2:(f.cps[j].name.toList==c.name.toList)=false:=hq
    have hbs:=e1
    simp only[Cp.e] at hbs
    simp only[E0,Cp.e,jA,jB,apL,jC,jD,aF.d8,C.I_i,C.L_l,C.S_s,jW,jX,decide_true,jR,hb1,Int.le_refl,hbs,List.length_cons,e2,jJ]
    have t1:(((f.cps.drop (j+1)).length+1:Nat):Int)>0:=by omega
    have t2:(0:Int)<(((f.cps.drop (j+1)).length+1:Nat):Int):=by omega
    simp only[t1,t2,decide_true,jR,jS,jJ,hd,List.map_cons]
    rfl
  ·refine ⟨[],.inl ⟨(List.drop_eq_nil_of_le (by omega)).symm,fun h=>absurd h hn⟩,?_⟩
   rw[←d7 _ (by simp)]
   have e1:((f.cps.map Cp.e).take (f.cps.length:Int).toNat).drop (j:Int).toNat=[]:=by
    rw[jY,jY];apply List.drop_eq_nil_of_le;rw[List.length_take,jW];omega
   have hb1:(j:Int)≤(f.cps.length:Int):=by omega
   simp only[E0,Cp.e,jA,jB,apL,jC,jD,aF.d8,C.I_i,C.L_l,C.S_s,jW,jX,decide_true,jR,hb1,Int.le_refl,e1,List.length_nil,jJ]
   rfl
 obtain ⟨r,r1,r3⟩:=hrest
 refine ⟨j,r,hj,fun m hm h2=>hj1 m hm (Nat.zero_le _) h2,hj2,r1,?_⟩
 simp only[aF,ev3,E0,Fl.e,Cp.e,jA,jB] at hF h1 r3⊢
 simp only[aF.d9,apL,jC,jD,hF,call4,jI,C.I_i,C.L_l,ao]
 simp only[show ((3:Int)==1)=false from rfl,show ((3:Int)==2)=false from rfl,show ((3:Int)==3)=true from rfl,jS,jR]
 simp only[Int.natCast_zero] at h1
 erw[h1]
 simp only[aC,r3]
 rfl
end
end Go.Ev
namespace Go.Ev
abbrev JK (a b:Cp):Prop:=sLt a.name b.name=true
theorem EA {f:Fl} (h:VF f) (a:Nat):∀n,∀(hb:a+1+n<f.cps.length),sLt (f.cps[a]'(by omega)).name f.cps[a+1+n].name=true:=fun n=>by
 induction n with
 |zero=>intro hb;exact (h.cp (a+1) hb).2.2.1 (by omega)
 |succ n ih=>
  intro hb
  exact jm (ih (by omega)) ((h.cp (a+1+(n+1)) hb).2.2.1 (by omega))
theorem tL {f:Fl} (h:VF f) {a b:Nat} (ha:a<f.cps.length) (hb:b<f.cps.length) (hab:a<b):sLt f.cps[a].name f.cps[b].name=true:=by
 obtain ⟨n,rfl⟩:∃n,b=a+1+n:=⟨b-a-1,by omega⟩
 exact EA h a n hb
theorem Ca {f:Fl} (h:VF f):f.cps.Pairwise JK:=by
 rw[List.pairwise_iff_getElem]
 exact fun i j hi hj hij=>tL h hi hj hij
theorem rZ (p:Cp→Bool) (w:Cp→Int) (a b:List Cp):fk p w (a++b)=fk p w a+fk p w b:=by
 simp only[fk,List.map_append,List.sum_append]
theorem AJ (p:Cp→Bool) (w:Cp→Int) (a:Cp):fk p w [a]=bif p a then w a else 0:=by
 simp[fk]
structure Jw (f:Fl) (t:Cp) (j:Nat) (r:List Cp):Prop where
 hj:j≤f.cps.length
 lo:∀m (hm:m<f.cps.length),m<j→sLt f.cps[m].name t.name=true
 hi:∀hj:j<f.cps.length,sLt f.cps[j].name t.name=false
 hr:(r=f.cps.drop (j+1)∧∀hj:j<f.cps.length,sEq f.cps[j].name t.name=true)∨(r=f.cps.drop j∧∀hj:j<f.cps.length,sEq f.cps[j].name t.name=false)
section
variable {f:Fl} (h:VF f) {t:Cp} {j:Nat} {r:List Cp} (I:Jw f t j r)
include h I
theorem Gt {x:Cp} (hx:x∈r):x∈f.cps∧sLt t.name x.name=true:=by
 rcases I.hr with ⟨e,_⟩|⟨e,hd⟩
 ·rw[e] at hx
  refine ⟨List.mem_of_mem_drop hx,?_⟩
  obtain ⟨m,hm,rfl⟩:=List.getElem_of_mem hx
  rw[List.length_drop] at hm
  rw[List.getElem_drop]
  have hj:j<f.cps.length:=by omega
  have h1:=I.hi hj
  have h2:=tL h hj (show j+1+m<f.cps.length by omega) (by omega)
  have h3:=zF t.name f.cps[j].name
  rw[h1] at h3
  cases q:sLt t.name f.cps[j].name with
  |true=>exact jm q h2
  |false=>
   rw[q,Bool.false_or,ja] at h3
   rw[(bV _ _).1 h3];exact h2
 ·rw[e] at hx
  refine ⟨List.mem_of_mem_drop hx,?_⟩
  obtain ⟨m,hm,rfl⟩:=List.getElem_of_mem hx
  rw[List.length_drop] at hm
  rw[List.getElem_drop]
  have hj:j<f.cps.length:=by omega
  have h1:=I.hi hj
  have h3:=zF t.name f.cps[j].name
  have h4:=hd hj
  rw[fL] at h4
  rw[h1,h4,Bool.or_false,ja] at h3
  rcases Nat.eq_zero_or_pos m with q|q
  ·subst q;simpa using h3
  ·exact jm h3 (tL h hj (show j+m<f.cps.length by omega) (by omega))
theorem FD {x:Cp} (hx:x∈f.cps.take j):x∈f.cps∧sLt x.name t.name=true:=by
 refine ⟨List.mem_of_mem_take hx,?_⟩
 obtain ⟨m,hm,rfl⟩:=List.getElem_of_mem hx
 rw[List.length_take] at hm
 rw[List.getElem_take]
 exact I.lo m (by omega) (by omega)
theorem Fq:(f.cps.take j++[t]++r).Pairwise JK:=by
 have hp:=Ca h
 rw[List.pairwise_append,List.pairwise_append]
 refine ⟨⟨hp.sublist (List.take_sublist _ _),List.pairwise_singleton _ _,fun a ha b hb=>?_⟩,?_,fun a ha b hb=>?_⟩
 ·rw[List.mem_singleton.1 hb];exact (FD h I ha).2
 ·rcases I.hr with ⟨e,_⟩|⟨e,_⟩
  ·rw[e];exact hp.sublist (List.drop_sublist _ _)
  ·rw[e];exact hp.sublist (List.drop_sublist _ _)
 ·have h2:=(Gt h I hb).2
  rcases List.mem_append.1 ha with ha|ha
  ·exact jm (FD h I ha).2 h2
  ·rw[List.mem_singleton.1 ha];exact h2
theorem Ef (ht:gI t=true) (hs:f.svs.any (fun s=>sEq s.name t.svc)=true) (ha:sEq t.at_ (mkS [])=true) (hn:f.cps.length≤59):VF {f with cps:=f.cps.take j++[t]++r}:=by
 have hrl:r.length+j≤f.cps.length:=by
  have:=I.hj
  rcases I.hr with ⟨e,_⟩|⟨e,_⟩<;>rw[e,List.length_drop]<;>omega
 have hP:=Fq h I
 rw[List.pairwise_iff_getElem] at hP
 have hmem:∀x,x∈f.cps.take j++[t]++r→x∈f.cps∨x=t:=fun x hx=>by
  rcases List.mem_append.1 hx with hx|hx
  ·rcases List.mem_append.1 hx with hx|hx
   ·exact .inl (List.mem_of_mem_take hx)
   ·exact .inr (List.mem_singleton.1 hx)
  ·exact .inl (Gt h I hx).1
 refine ⟨h.n12,h.n30,?_,h.sv,fun i hi=>?_,h.bt,fun b hb=>?_⟩
 ·show (f.cps.take j++[t]++r).length≤60
  simp only[List.length_append,List.length_take,List.length_cons,List.length_nil];omega
 ·have hx:=List.getElem_mem hi
  refine ⟨?_,?_,fun h'=>hP (i-1) i (by show i-1<(f.cps.take j++[t]++r).length;exact Nat.lt_of_le_of_lt (Nat.sub_le _ _) hi) hi (by omega),?_⟩
  ·rcases hmem _ hx with q|q
   ·obtain ⟨k,hk,e⟩:=List.getElem_of_mem q
    rw[←e];exact (h.cp k hk).1
   ·rw[q];exact ht
  ·rcases hmem _ hx with q|q
   ·obtain ⟨k,hk,e⟩:=List.getElem_of_mem q
    rw[←e];exact (h.cp k hk).2.1
   ·rw[q];exact hs
  ·rcases hmem _ hx with q|q
   ·obtain ⟨k,hk,e⟩:=List.getElem_of_mem q
    rw[←e];exact (h.cp k hk).2.2.2
   ·rw[q];exact .inl ha
 ·have hbo:dq b=true:=(gU (eV h)).bb b hb
  have h0:atP b.name t=false:=by
   unfold atP
   rw[(bV _ _).1 ha,fL]
   exact gE hbo
  have key:∀w:Cp→Int,(∀x,x∈f.cps→0≤w x)→fk (atP b.name) w (f.cps.take j++[t]++r)≤fk (atP b.name) w f.cps:=fun w hw=>by
   have e0:fk (atP b.name) w f.cps=fk (atP b.name) w (f.cps.take j)+fk (atP b.name) w (f.cps.drop j):=by
    rw[←rZ,List.take_append_drop]
   rw[rZ,rZ,AJ,h0,jS,e0]
   have:fk (atP b.name) w r≤fk (atP b.name) w (f.cps.drop j):=by
    rcases I.hr with ⟨e,_⟩|⟨e,_⟩
    ·by_cases hj:j<f.cps.length
     ·rw[List.drop_eq_getElem_cons hj,←e,show f.cps[j]::r=[f.cps[j]]++r from rfl,rZ,AJ]
      have:=hw _ (List.getElem_mem hj)
      cases atP b.name f.cps[j]<;>simp<;>omega
     ·rw[e,List.drop_eq_nil_of_le (by omega),List.drop_eq_nil_of_le (by omega)]
      exact Int.le_refl _
    ·rw[e];exact Int.le_refl _
   omega
  obtain ⟨c1,c2,c3⟩:=h.fit b hb
  have hv:=gU (eV h)
  have k1:=key Cp.room (fun x hx=>(kX hv x hx).1)
  have k2:=key Cp.hold (fun x hx=>(kQ hv x hx).1)
  have k3:=key (fun _=>1) (fun _ _=>by decide)
  exact ⟨Int.le_trans k1 c1,Int.le_trans k2 c2,Int.le_trans k3 c3⟩
end
end Go.Ev
namespace Go.Ev
theorem wM {l:List Cp} {p q:Cp→Bool} (h:∀y,y∈l→p y=q y):l.any p=l.any q:=by
 rw[Bool.eq_iff_iff,List.any_eq_true,List.any_eq_true]
 exact ⟨fun ⟨y,hy,e⟩=>⟨y,hy,by rw[←h y hy];exact e⟩,fun ⟨y,hy,e⟩=>⟨y,hy,by rw[h y hy];exact e⟩⟩
theorem D9 {l:List Cp} {p q:Cp→Bool} {w:Cp→Int} (h:∀y,y∈l→p y=q y):fk p w l=fk q w l:=by
 unfold fk
 congr 1
 exact List.map_congr_left fun y hy=>by rw[h y hy]
structure Twin (f:Fl) (c t:Cp):Prop where
 svc:t.svc=c.svc
 room:t.room=c.room
 hold:t.hold=c.hold
 sel:t.sel=c.sel
 apart:t.apart=c.apart
 near:t.near=c.near
 fixed:t.fixed=c.fixed
 oth:∀y,y∈f.cps→oth t y=oth c y
theorem Cn {f:Fl} {c t:Cp} (W:Twin f c t) (b:Bt) (o:Bool):cS f t b o=cS f c b o:=by
 have e1:f.cps.any (iH f t b)=f.cps.any (iH f c b):=wM fun y hy=>by unfold iH;rw[W.oth y hy,W.svc,W.apart]
 have e2:mH f t b=mH f c b:=by
  unfold mH
  have a1:f.cps.any (iP f t b)=f.cps.any (iP f c b):=wM fun y hy=>by unfold iP;rw[W.oth y hy,W.near]
  have a2:f.cps.any (lZ t t.near)=f.cps.any (lZ c c.near):=wM fun y hy=>by unfold lZ;rw[W.oth y hy,W.near]
  rw[a1,a2,W.near,W.svc]
 have e3:∀w:Cp→Int,cy (onP t b) w f.cps f.cps.length=cy (onP c b) w f.cps f.cps.length:=fun w=>by
  rw[hD,hD]
  exact D9 fun y hy=>by unfold onP;rw[W.oth y hy]
 have e4:fp (onP t b) f.cps f.cps.length=fp (onP c b) f.cps f.cps.length:=by
  have h1:=kq (onP t b) f.cps
  have h2:=kq (onP c b) f.cps
  have h3:=e3 (fun _=>1)
  rw[hD,hD] at h3
  omega
 unfold cS
 rw[e1,e2,e3,e3,e4,W.fixed,W.sel,W.room,W.hold]
theorem Ch {g:Fl} (hv:VF g) {c t:Cp} (hc:c∈g.cps) (ht:t∈g.cps) (hcw:cQ c=true) (htw:cQ t=true) (hne:sEq t.name c.name=false) (W:Twin g c t) (ha:ahd c t=true) {x:Stp} (hx:ku g=some x):x.1≠t.name:=by
 intro e
 have hV:=eV hv
 have hu:=j6 hV
 obtain ⟨l1,a,l2,hq,ha1,hno⟩:=List.findSome?_eq_some_iff.1 hx
 have han:a.name=x.1:=by
  unfold sA at ha1
  cases h:sEq (dp g a) (mkS []) with
  |true=>rw[h] at ha1;cases ha1
  |false=>rw[h] at ha1;exact congrArg (fun p:Stp=>p.1) (Option.some.inj ha1)
 have haq:a∈queue g:=by rw[hq];simp
 have hat:a=t:=rJ hu (lp haq).1 ht (by rw[han,e];exact (bV _ _).2 rfl)
 subst hat
 have hcq:c∈queue g:=(jn g).mem_iff.2 (List.mem_filter.2 ⟨hc,hcw⟩)
 rw[hq] at hcq
 rcases List.mem_append.1 hcq with h1|h1
 ·have h2:=hno c h1
  have hcs:sEq (dp g c) (mkS [])=true:=by
   unfold sA at h2
   cases h:sEq (dp g c) (mkS []) with
   |true=>rfl
   |false=>rw[h] at h2;cases h2
  have hts:sEq (dp g a) (mkS [])=false:=by
   unfold sA at ha1
   cases h:sEq (dp g a) (mkS []) with
   |true=>rw[h] at ha1;cases ha1
   |false=>rfl
  obtain ⟨b,hb,_,hf⟩:=wX hts
  rw[Cn W] at hf
  obtain ⟨j,hj,rfl⟩:=List.getElem_of_mem hb
  rcases De g c g.bts.length (Nat.le_refl _) with ⟨_,h4⟩|⟨m,hm,_,h4,_,_⟩
  ·exact h4 j hj hj hf
  ·have n0:¬((m:Int)<0):=by omega
   have:dp g c=g.bts[m].name:=by
    simp only[dp,h4,jY,List.getElem?_eq_getElem hm,n0,if_false]
   rw[this,gE ((gU hV).bb _ (List.getElem_mem hm))] at hcs
   cases hcs
 ·rcases List.mem_cons.1 h1 with h2|h2
  ·subst h2
   rw[(bV _ _).2 rfl] at hne;cases hne
  ·have hs:=(sB ahd rT mW r8 (waits g) [] .nil).1
   have hs':(queue g).Pairwise fun x y=>ahd y x=false:=hs
   rw[hq,List.pairwise_append] at hs'
   have:=(List.pairwise_cons.1 hs'.2.1).1 c h2
   rw[ha] at this;cases this
end Go.Ev
namespace Go.Ev
structure TwQ (c t:Cp) (io it n:Nat) (g:Fl):Prop where
 len:g.cps.length=n
 own:∀(h1:io<g.cps.length) (h2:it<g.cps.length),cQ g.cps[io]=true→g.cps[io]=c∧g.cps[it]=t
structure TwH (c t:Cp):Prop where
 cw:cQ c=true
 tw:cQ t=true
 ne:sEq t.name c.name=false
 a:ahd c t=true
 svc:t.svc=c.svc
 room:t.room=c.room
 hold:t.hold=c.hold
 sel:t.sel=c.sel
 apart:t.apart=c.apart
 near:t.near=c.near
 fixed:t.fixed=c.fixed
theorem GK {g:Fl} (hv:VF g) {i m:Nat} (hi:i<g.cps.length) (hm:m<g.cps.length) (hw:cQ g.cps[i]=true) (hs:cQ g.cps[m]=false):oth g.cps[i] g.cps[m]=true:=by
 have hne:i≠m:=fun e=>by subst e;rw[hw] at hs;cases hs
 have hs':sEq g.cps[m].at_ (mkS [])=false:=hs
 unfold oth
 rw[rE hv hi hm hne,hs'];rfl
theorem D4 {c y:Cp} (hs:cQ y=true):oth c y=false:=by
 have hs':sEq y.at_ (mkS [])=true:=hs
 unfold oth
 rw[hs',jZ,Bool.and_false]
theorem HW {c t:Cp} (H:TwH c t) {io it n:Nat} (hio:io<n) (hit:it<n) {g:Fl} (hv:VF g) (Q:TwQ c t io it n g) {x:Stp} (hx:ku g=some x) (F:po g x):TwQ c t io it n (plF g x):=by
 have hV:=eV hv
 have hl:=Q.len
 rw[F.put]
 have hl':(setAt g F.i (g.cps[F.i]'F.hi) F.b.name).cps.length=g.cps.length:=by simp[setAt]
 refine ⟨by rw[hl',hl],fun h1 h2 hw=>?_⟩
 have g1:io<g.cps.length:=by omega
 have g2:it<g.cps.length:=by omega
 have hno:F.i≠io:=fun e=>by
  rw[fD hv F.hi h1 g1,if_pos e] at hw
  have:cQ {g.cps[F.i]'F.hi with at_:=F.b.name}=false:=gE ((gU hV).bb _ F.hb)
  rw[this] at hw;cases hw
 rw[fD hv F.hi h1 g1,if_neg hno] at hw
 obtain ⟨e1,e2⟩:=Q.own g1 g2 hw
 have hti:F.i≠it:=fun e=>by
  have W:Twin g c t:=⟨H.svc,H.room,H.hold,H.sel,H.apart,H.near,H.fixed,fun y hy=>by
   obtain ⟨m,hm,rfl⟩:=List.getElem_of_mem hy
   cases hs:cQ g.cps[m] with
   |true=>rw[D4 hs,D4 hs]
   |false=>
    have o1:=GK hv g1 hm hw hs
    have o2:=GK hv g2 hm (by rw[e2];exact H.tw) hs
    rw[e1] at o1
    rw[e2] at o2
    rw[o1,o2]⟩
  have:=Ch hv (c:=c) (t:=t) (by rw[←e1];exact List.getElem_mem g1) (by rw[←e2];exact List.getElem_mem g2) H.cw H.tw H.ne W H.a hx
  apply this
  have ex:x.1=(g.cps[F.i]'F.hi).name:=congrArg (fun p:Stp=>p.1) F.e
  rw[ex]
  subst e
  rw[e2]
 rw[fD hv F.hi h1 g1,if_neg hno,fD hv F.hi h2 g2,if_neg hti]
 exact ⟨e1,e2⟩
theorem C4 {c t:Cp} (H:TwH c t) {io it n:Nat} (hio:io<n) (hit:it<n):∀(k:Nat) (f:Fl) (s:List Sp),VF f→TwQ c t io it n f→TwQ c t io it n (place k f s).1:=by
 intro k
 induction k with
 |zero=>intro f s hv hQ;exact hQ
 |succ k ih=>
  intro f s hv hQ
  cases hx:ku f with
  |none=>rw[oh hx];exact hQ
  |some x=>
   obtain ⟨F⟩:=lG hv hx
   have:=ih (plF f x) (s++[stS x]) (F.valid hv) (HW H hio hit hv hQ hx F)
   simp only[place,hx]
   exact this
end Go.Ev
namespace Go.Ev
theorem H8 {f:Fl} (hz:f.Sz 1048576) (hv:bP f=true) {k:Int} (hk1:1≤k) (hk5:k≤5) {E:List C} (hE:E.length=20) {l:List Cp} (hx:({f with cps:=l}:Fl).Sz 1048576) (hvx:bP {f with cps:=l}=true) (he:aF (f.e++(.i k::E))=some [.b f.pack,.b true,.l (f.bts.map Bt.e),.l (f.svs.map Sv.e),.l (l.map Cp.e)]):
  bA (f.e++(.i k::E))=some [.b f.pack,.i 0,.l (f.bts.map Bt.e),.l (f.svs.map Sv.e),.l (l.map Cp.e)]:=by
 have v1:=fA hz
 have v2:=fA hx
 have w:=fb k 1 5
 have w':within k 1 5=true:=by simp[within,hk1,hk5]
 rw[hv] at v1
 rw[hvx] at v2
 match E,hE with
 |[e1,e2,e3,e4,e5,e6,e7,e8,e9,e10,e11,e12,e13,e14,e15,e16,e17,e18,e19,e20],_=>
  simp only[Fl.e,jA,jB] at he v1 v2
  simp only[bA,bA.d2,Fl.e,jA,jB,apL,jC,jD,v1,ad,jI,he,call5,C.B_b,C.L_l,v2,ao,jZ,jS,jR,jJ,bA.d1,w,w',jV]
def gy (c:Cp) (n:Nat):Cp:= {c with name:=bs #[122,122,45,116,119,105,110],born:=c.born+1+n}
theorem Hb {c:Cp} (h:gI c=true) (hb:c.born≤999990) {n:Nat} (hn:n≤5):gI (gy c n)=true:=by
 have hnm:aS (bs #[122,122,45,116,119,105,110])=true:=by decide
 simp only[gI,gy,Bool.and_eq_true] at h⊢
 obtain ⟨_,h2,h3,h4⟩:=h
 refine ⟨hnm,h2,?_,h4⟩
 simp only[within,Bool.and_eq_true,decide_eq_true_eq] at h3⊢
 omega
theorem Ja {c:Cp} {n:Nat} (hw:cQ c=true) (hne:sEq (gy c n).name c.name=false):TwH c (gy c n):=by
 refine ⟨hw,hw,hne,?_,rfl,rfl,rfl,rfl,rfl,rfl,rfl⟩
 show ltE c.rank c.born c.name c.rank (c.born+1+n) _=true
 have:c.born<c.born+1+n:=by omega
 simp[ltE,this]
theorem Ia {f:Fl} (hz:f.Sz 1048576) (hv:bP f=true) {c:Cp} (hc:c∈f.cps) (hw:cQ c=true) (hb:c.born≤999990) (h59:f.cps.length≤59) {n:Nat} (hn:n≤5):
  ∃l:List Cp,bA (f.e++ev3 (gy c n))=some [.b f.pack,.i 0,.l (f.bts.map Bt.e),.l (f.svs.map Sv.e),.l (l.map Cp.e)]∧({f with cps:=l}:Fl).Sz 1048576∧VF {f with cps:=l}∧gy c n∈l∧(sEq (gy c n).name c.name=false→c∈l):=by
 have hf:=Dk hv
 obtain ⟨kc,hkc,rfl⟩:=List.getElem_of_mem hc
 have hcz:=hz.2.2.2 _ (List.getElem_mem hkc)
 have htz:(gy f.cps[kc] n).Sz 1048576:=⟨by show (bs #[122,122,45,116,119,105,110]).size≤_;decide,hcz.2⟩
 obtain ⟨j,r,i1,i2,i3,i4,he⟩:=HI hz htz (by omega)
 have I:Jw f (gy f.cps[kc] n) j r:=⟨i1,i2,i3,i4⟩
 obtain ⟨c1,c2,_,_⟩:=hf.cp kc hkc
 have V:=Ef hf I (Hb c1 hb hn) c2 hw h59
 have hS:({f with cps:=f.cps.take j++[gy f.cps[kc] n]++r}:Fl).Sz 1048576:=⟨hz.1,hz.2.1,by have:=V.n60;exact Nat.le_trans this (by decide),fun x hx=>by
  rcases List.mem_append.1 hx with hx|hx
  ·rcases List.mem_append.1 hx with hx|hx
   ·exact hz.2.2.2 x (List.mem_of_mem_take hx)
   ·rw[List.mem_singleton.1 hx];exact htz
  ·exact hz.2.2.2 x (Gt hf I hx).1⟩
 refine ⟨f.cps.take j++[gy f.cps[kc] n]++r,?_,hS,V,by simp,fun hne=>?_⟩
 ·have e3:ev3 (gy f.cps[kc] n)=.i 3::(E0++(gy f.cps[kc] n).e++[.s (bs #[]),.s (bs #[])]):=by simp only[ev3,jA]
  rw[e3] at he⊢
  exact H8 hz hv (by decide) (by decide) (by simp[E0,Cp.e]) hS (eV V) he
 ·by_cases hkj:kc<j
  ·refine List.mem_append.2 (.inl (List.mem_append.2 (.inl ?_)))
   have:kc<(f.cps.take j).length:=by rw[List.length_take];omega
   have e:(f.cps.take j)[kc]=f.cps[kc]:=List.getElem_take
   rw[←e];exact List.getElem_mem this
  ·refine List.mem_append.2 (.inr ?_)
   rcases i4 with ⟨e,hd⟩|⟨e,_⟩
   ·by_cases hkj2:kc=j
    ·exfalso
     subst hkj2
     have h1:=hd hkc
     rw[fL,hne] at h1
     cases h1
    ·rw[e]
     have hm:kc-(j+1)<(f.cps.drop (j+1)).length:=by rw[List.length_drop];omega
     have e2:(f.cps.drop (j+1))[kc-(j+1)]=f.cps[kc]:=by
      rw[List.getElem_drop];congr 1;omega
     rw[←e2];exact List.getElem_mem hm
   ·rw[e]
    have hm:kc-j<(f.cps.drop j).length:=by rw[List.length_drop];omega
    have e2:(f.cps.drop j)[kc-j]=f.cps[kc]:=by
     rw[List.getElem_drop];congr 1;omega
    rw[←e2];exact List.getElem_mem hm
end Go.Ev
namespace Go.Ev
theorem xq {f:Fl} (hz:f.Sz 1048576) (a b h i j k l m n o p q r s:C):bZ.d1 a b (.b true) (.b f.pack) (.l (f.bts.map Bt.e)) (.l (f.svs.map Sv.e)) (.l (f.cps.map Cp.e)) h i j k l m n o p q r s=some (.ret [.b true]):=by
 have p1:=Fs hz
 have p2:=B0 hz
 obtain ⟨gz,_,_⟩:=yn hz
 have w1':=zM gz
 simp only[Fl.e,yh,jA,jB] at p1 p2 w1'
 simp only[jC,jD,bZ.d1,C.B_b,jR,p1,p2,call5,jI,C.L_l,w1',ad]
theorem Fu {f:Fl} (hz:f.Sz 1048576) (hv:bP f=true) {c:Cp} (hc:c∈f.cps) (hw:cQ c=true) (hb:c.born≤999990) (h59:f.cps.length≤59) (A:List (List C)):
  wk bZ.d1 ([.l A,.s c.name,.b false]++f.e++[.s c.name,.s c.svc,.i c.rank,.i c.born,.i c.room,.i c.hold,.s c.sel,.l (c.likes.map Lk.e),.i c.apart,.s c.near,.s c.fixed,.s c.at_])=some (.ret [.b true]):=by
 have hb0:0≤c.born:=((gU hv).cb c hc).2.2.2.2.1
 have hm:(A.length:Int).tmod 5=((A.length%5:Nat):Int):=by rw[Int.tmod_eq_emod_of_nonneg (jX _)];rfl
 have hn:A.length%5≤5:=by omega
 obtain ⟨l,e1,xz,xv,ht,hcl⟩:=Ia hz hv hc hw hb h59 hn
 have xV:=eV xv
 have p2:=B0 xz
 obtain ⟨gz,_,_⟩:=yn xz
 have hw60:(waits {f with cps:=l}).length≤60:=Nat.le_trans (List.length_filter_le _ _) xv.n60
 obtain ⟨P,hvg,hno⟩:=Et {f with cps:=l} 60 {f with cps:=l} [] xv (JL xV) hw60
 have e:lU {f with cps:=l}=place 60 {f with cps:=l} []:=by simp only[lU,xV,jR]
 obtain ⟨it,hit,eit⟩:=List.getElem_of_mem ht
 have hit:it<l.length:=hit
 have TW:=fun (c0 t0:Cp) (H:TwH c0 t0) (io:Nat) (hio:io<l.length) (h0:l[io]=c0) (h1:l[it]=t0)=>C4 H hio hit 60 {f with cps:=l} [] xv ⟨rfl,fun _ _ _=>⟨h0,h1⟩⟩
 rw[←e] at P hvg TW
 generalize lU {f with cps:=l}=r at*
 have hgv:=eV hvg
 have hlen:r.1.cps.length=l.length:=P.l
 have hit':it<r.1.cps.length:=by omega
 have nt:r.1.cps[it].name=(gy c (A.length%5)).name:=by rw[(P.c it hit' hit).1];exact congrArg Cp.name eit
 obtain ⟨kt,hkt,t1,t2⟩:=lB (j6 hgv) (List.getElem_mem hit')
 obtain ⟨ct,okt,Wt,ht'⟩:=qt (f:=r.1) (gy c (A.length%5)).name gz.2.2.1
 rw[nt] at t1
 have hokt:okt=true∧ct=r.1.cps[it]:=by
  rcases ht' with ⟨_,h⟩|⟨h,k',hk',h',e'⟩
  ·omega
  ·have:k'=kt:=by omega
   subst this
   exact ⟨h,by rw[e',t2]⟩
 obtain ⟨rfl,rfl⟩:=hokt
 obtain ⟨co,oko,Wo,ho'⟩:=qt (f:=r.1) c.name gz.2.2.1
 have key:(bif !(r.1.cps[it].at_.toList==(bs #[]).toList) then (!(co.at_.toList==(bs #[]).toList)) else true)=true:=by
  have q1:(r.1.cps[it].at_.toList==(bs #[]).toList)=cQ r.1.cps[it]:=rfl
  have q2:(co.at_.toList==(bs #[]).toList)=cQ co:=rfl
  rw[q1,q2]
  cases hwt:cQ r.1.cps[it] with
  |true=>rfl
  |false=>
   cases hne:sEq (gy c (A.length%5)).name c.name with
   |true=>
    have en:=(bV _ _).1 hne
    have:co=r.1.cps[it]:=by
     rw[←en,t1] at ho'
     rcases ho' with ⟨_,h⟩|⟨h,k',hk',h',e'⟩
     ·omega
     ·have:k'=kt:=by omega
      subst this
      rw[e',t2]
    rw[this,hwt];rfl
   |false=>
    obtain ⟨io,hio,eio⟩:=List.getElem_of_mem (hcl hne)
    have hio':io<r.1.cps.length:=by omega
    have Q:=TW c (gy c (A.length%5)) (Ja hw hne) io hio eio eit
    have no:r.1.cps[io].name=c.name:=by rw[(P.c io hio' hio).1];exact congrArg Cp.name eio
    obtain ⟨ko,hko,o1,o2⟩:=lB (j6 hgv) (List.getElem_mem hio')
    rw[no] at o1
    have:co=r.1.cps[io]:=by
     rcases ho' with ⟨_,h⟩|⟨h,k',hk',h',e'⟩
     ·omega
     ·have:k'=ko:=by omega
      subst this
      rw[e',o2]
    rw[this]
    cases hwo:cQ r.1.cps[io] with
    |false=>rfl
    |true=>
     obtain ⟨_,q⟩:=Q.own hio' hit' hwo
     rw[q] at hwt
     have:cQ (gy c (A.length%5))=true:=hw
     rw[this] at hwt;cases hwt
 have w1':w64 (c.born+1)=c.born+1:=aP (by omega) (by omega)
 have w2':w64 (c.born+1+((A.length%5:Nat):Int))=c.born+1+((A.length%5:Nat):Int):=aP (by omega) (by omega)
 have n0:((0:Int) !=0)=false:=rfl
 simp only[Fl.e,ev3,E0,Cp.e,gy,yh,jA,jB] at e1 p2 Wt Wo
 simp only[Fl.e,jA,jB,apL,jC,jD,bZ.d1,C.B_b,C.I_i,jS,C.L_l,hm,w1',w2',ao,e1,call5,jI,n0,p2,Wo,Wt,call13,jR,C.S_s]
 cases h1:(!(r.1.cps[it].at_.toList==(bs #[]).toList)) with
 |false=>rfl
 |true=>
  rw[h1,jR] at key
  simp only[jR,key]
theorem vf {A:List (List C)} (hA:BY A):bZ [.l A]=some [.b true]:=by
 obtain ⟨f,g1,hz⟩:=zD hA
 have Q1:=uM hz
 simp only[Fl.e] at g1 Q1
 simp only[bZ,bZ.d3,apL,jC,jD,C.L_l]
 cases decide ((A.length:Int)>1048576) with
 |true=>rfl
 |false=>
  simp only[jS,g1,call4,ad,jI,jC,jD,Q1,C.L_l,jW]
  by_cases hq0:(fj f).length=0
  ·obtain ⟨c,ok,W,_⟩:=qt (f:=f) (bs #[]) hz.2.2.1
   simp only[Fl.e,Cp.e,jA,jB] at W
   have z1:¬(((fj f).length:Int)>0):=by omega
   have z2:(((fj f).length:Int)==0)=true:=by rw[hq0];rfl
   simp only[z1,decide_false,jS,jJ,apL,jC,jD,bZ.d2,W,call13,jI,C.L_l,jW,z2,jZ,xq hz,jV]
  ·have hv:bP f=true:=by
    cases hv:bP f with
    |true=>rfl
    |false=>rw[fj,hv,jS] at hq0;simp at hq0
   have hm:(A.length:Int).tmod ((fj f).length:Int)=((A.length%(fj f).length:Nat):Int):=by rw[Int.tmod_eq_emod_of_nonneg (jX _)];rfl
   have hml:A.length%(fj f).length<(fj f).length:=Nat.mod_lt _ (by omega)
   have z1:((fj f).length:Int)>0:=by omega
   have z2:(((fj f).length:Int) !=0)=true:=by rw[bne_iff_ne];omega
   have z3:(((fj f).length:Int)==0)=false:=by rw[beq_eq_false_iff_ne];omega
   obtain ⟨c,hcq,ec⟩:∃c,c∈queue f∧(fj f)[A.length%(fj f).length]=c.name:=by
    have e:fj f=(queue f).map Cp.name:=by simp only[fj,hv,jR]
    have key:∀s,s∈fj f→∃c,c∈queue f∧s=c.name:=fun s hs=>by
     rw[e] at hs
     obtain ⟨c,h1,h2⟩:=List.mem_map.1 hs
     exact ⟨c,h1,h2.symm⟩
    exact key _ (List.getElem_mem hml)
   obtain ⟨hc,hw⟩:=lp hcq
   obtain ⟨k,hk,k1,k2⟩:=lB (j6 hv) hc
   obtain ⟨c',ok,W,hW⟩:=qt (f:=f) c.name hz.2.2.1
   have hcc:c'=c:=by
    rcases hW with ⟨_,h⟩|⟨_,k',hk',h',e'⟩
    ·omega
    ·have:k'=k:=by omega
     subst this
     rw[e',k2]
   subst hcc
   simp only[Fl.e,Cp.e,jA,jB] at W
   simp only[z1,z2,hm,ltL hml,decide_true,jR,jX,jY]
   rw[getD_map' sE hml,ec]
   simp only[sE,jC,jJ,apL,jD,bZ.d2,W,call13,jI,C.L_l,jW,z3,ja,jR,C.I_i]
   by_cases h59:(f.cps.length:Int)>59
   ·simp only[h59,decide_true,jZ,jS,jJ,apL,jC,jD,xq hz,jV]
   ·simp only[h59,decide_false,ja,jR,jJ,apL,jC,jD]
    by_cases hb:c'.born>999990
    ·simp only[hb,decide_true,xq hz,jV]
    ·have T:=Fu hz hv hc hw (by omega) (by omega) A
     simp only[Fl.e,jA,jB,apL,jC,jD] at T
     simp only[hb,decide_false,T,jV]
end Go.Ev
namespace Go.Ev
open Go.RowKit
def bE (n:Int):List C:=[.i n]
def yH (k:IntKind) (w:World) (a:Option Addr) (len cap:Nat) (zs:List Int):Prop:=
 (a=none∧len=0∧cap=0∧zs=[])∨
 ∃x,a=some x∧len≤cap∧cap≤maxLen∧zs.length=cap∧(∀i,i<zs.length→w.cell? (x.add i)=some (.int k (zs.getD i 0)))∧∀n∈zs,(Lit.int k n).wf=true
theorem CH {w:World} {a:Addr} {v:Value} (h:w.cell? a=some v):a.block<w.heap.size∧a.spot=none:=by
 simp only[World.cell?] at h
 split at h
 ·rename_i c _ _ hb
  refine ⟨?_,?_⟩
  ·exact (Array.getElem?_eq_some_iff.1 hb).1
  ·split at h
   ·simp at h
   ·rename_i hs;simpa using hs
 ·simp at h
theorem Cr {T:Tys} {F:Nat→Prop} {w:World} {a:Option Addr} {len cap:Nat} {zs:List Int} {t:TypeId} {d:TD} (hd:aV T t=some d) (hcts:d.cts=[.int .u8]) (hF:∀k,k<w.heap.size→F k) (h:yH .u8 w a len cap zs):
  cg T F w (.sl t) (.l ((zs.take len).map bE)) (.slice a len cap):=by
 rcases h with ⟨rfl,rfl,rfl,rfl⟩|⟨x,rfl,hl,hm,hz,hc,hw⟩
 ·exact .sl0 t none 0
 ·rcases Nat.eq_zero_or_pos len with h0|h0
  ·subst h0
   rw[List.take_zero,List.map_nil]
   exact .sl0 t (some x) cap
  ·have hc0:=hc 0 (by omega)
   have hx:=CH hc0
   rw[Addr.add,if_pos rfl] at hx
   obtain ⟨g,o,sp⟩:=x
   obtain ⟨hg,hsp⟩:=hx
   simp only at hsp;subst hsp
   have hlen:((zs.take len).map bE).length=len:=by simp;omega
   have key:=cg.sl (T:=T) (F:=F) (w:=w) t d ((zs.take len).map bE) g o cap (fun i _=>.int .u8 (zs.getD i 0)) hd (hF _ hg) (by omega)
    (fun i cs hi=>by
     simp only[List.getElem?_map,Option.map_eq_some_iff] at hi
     obtain ⟨n,_,rfl⟩:=hi
     rw[hcts];rfl)
    (fun i cs j c hi hj=>by
     have hil:i<len:=by
      have:=(List.getElem?_eq_some_iff.1 hi).1
      omega
     simp only[List.getElem?_map,Option.map_eq_some_iff] at hi
     obtain ⟨n,hn,rfl⟩:=hi
     have hj0:j=0:=by
      have:=(List.getElem?_eq_some_iff.1 hj).1
      simp only[bE,List.length_cons,List.length_nil] at this;omega
     subst hj0
     have h1:=hc i (by omega)
     rw[hcts]
     have ha:Addr.add ⟨g,o,none⟩ i=⟨g,o+(i*[CT.int .u8].length+0),none⟩:=by
      rw[Addr.add];split
      ·rename_i h;subst h;simp
      ·simp
     rw[←ha];exact h1)
    (fun i cs j c t' hi hj ht=>by
     have hil:i<len:=by
      have:=(List.getElem?_eq_some_iff.1 hi).1
      omega
     simp only[List.getElem?_map,Option.map_eq_some_iff] at hi
     obtain ⟨n,hn,rfl⟩:=hi
     have hj0:j=0:=by
      have:=(List.getElem?_eq_some_iff.1 hj).1
      simp only[bE,List.length_cons,List.length_nil] at this;omega
     subst hj0
     rw[hcts] at ht
     simp only[List.getElem?_cons_zero,Option.some.injEq] at ht
     subst ht
     simp only[bE,List.getElem?_cons_zero,Option.some.injEq] at hj
     subst hj
     rw[List.getElem?_take,if_pos hil] at hn
     rw[List.getD_eq_getElem?_getD,hn]
     exact .int .u8 n)
   rw[hlen] at key
   exact key
theorem HF {n:Int} (h:(Lit.int .u8 n).wf=true):0≤n∧n≤255:=by
 simp only[Lit.wf,Bool.and_eq_true,decide_eq_true_eq] at h
 exact h
theorem yH.bytes {w:World} {a:Option Addr} {len cap:Nat} {zs:List Int} (h:yH .u8 w a len cap zs):∀n,n∈zs.take len→0≤n∧n≤255:=by
 intro n hn
 have hn':=List.mem_of_mem_take hn
 rcases h with ⟨_,_,_,rfl⟩|⟨x,_,_,_,_,_,hw⟩
 ·simp at hn'
 ·exact HF (hw n hn')
theorem Hg {zs:List Int} (h:∀n,n∈zs→0≤n∧n≤255):BY (zs.map bE):=fun r hr=>by
 obtain ⟨n,hn,rfl⟩:=List.mem_map.1 hr
 exact ⟨n,rfl,h n hn⟩
end Go.Ev
