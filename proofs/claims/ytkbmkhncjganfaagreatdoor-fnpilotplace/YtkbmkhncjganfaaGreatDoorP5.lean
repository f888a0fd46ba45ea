/- Proved here: the law FnPilotPlaceCard of the given program answers true at every input, and leaves the input as it was; no condition. This text: lemmas on the way (an evaluator of the program's code, sound once for all; the functions it prints; plain proofs on these). -/
import Derived.Test.YtkbmkhncjganfaaGreatDoorP4
set_option linter.all false
set_option autoImplicit false
set_option maxRecDepth 8000
namespace Go.Ev
section
variable {bs:List (List C)} (hb:BY bs) (hl:bs.length≤2000)
include hb hl
theorem Jd (pk:Bool):∀(d n:Nat) (L:List Bt) (p:Int),n=L.length+d→n≤10→(∀b,b∈L→b.Sz 1000)→0≤p→p≤1125899906842624-40000+(0-100)*d→
  ∃(L':List Bt) (p':Int),lim (js aH.d1) [.i n,.i L.length,.l bs,.i p,.b false,.b pk,.l [],.l [],.l [],.l (L.map Bt.e),.l [],.l []]=some (.brk 0 [.l bs,.i p',.b false,.b pk,.l [],.l [],.l [],.l (L'.map Bt.e),.l [],.l []])∧L'.length=n∧(∀b,b∈L'→b.Sz 1000)∧p≤p'∧p'≤p+10*d:=by
 intro d
 induction d with
 |zero=>
  intro n L p hn hn10 hL h0 h1
  refine ⟨L,p,aQ ?_,by omega,hL,by omega,by omega⟩
  have:¬((L.length:Int)<(n:Int)):=by omega
  simp only[apL,jC,jD,aH.d1,C.I_i,this,decide_false,jS,C.L_l]
 |succ d ih=>
  intro n L p hn hn10 hL h0 h1
  obtain ⟨s,g2,hs⟩:=Db (n:=L.length) (by omega)
  have b1:(Go.Ev.bs #[98]).size=1:=rfl
  obtain ⟨b,p1,g1,a1,a2,a3,a4⟩:=FC hb hl (nm:=Go.Ev.bs #[98]++s) (by rw[ByteArray.size_append,b1];omega) (p:=p) h0 (by omega)
  have c0:(L.length:Int)<(n:Int):=by omega
  have c1:1+s.size≤4294967296:=by omega
  have c2:L.length+1≤4294967296:=by omega
  have ww:w64 ((L.length:Int)+1)=(((L++[b]).length:Nat):Int):=by rw[aP (by omega) (by omega)];simp
  obtain ⟨L',p',q1,q2,q3,q4,q5⟩:=ih n (L++[b]) p1 (by simp;omega) hn10 (fun x hx=>by
   rcases List.mem_append.1 hx with hx|hx
   ·exact hL x hx
   ·rw[List.mem_singleton.1 hx];exact a2) (by omega) (by omega)
  refine ⟨L',p',?_,q2,q3,by omega,by omega⟩
  rw[←q1]
  apply aG
  simp only[apL,jC,jD,aH.d1,C.I_i,c0,decide_true,jR,g2,aa,jI,C.S_s,b1,c1,g1,call8,C.L_l,jW,rows,List.length_cons,List.length_nil,Nat.zero_add,c2,ww,List.map_append,List.map_cons,List.map_nil,Bt.e]
theorem Jt (pk:Bool) (bt:List (List C)):∀(d:Nat) (L:List Sv) (p:Int),L.length+d=4→(∀s,s∈L→s.Sz 1000)→0≤p→p≤1125899906842624-40000+(0-100)*d→
  ∃(L':List Sv) (p':Int),lim (AI aH.d2) [.i L.length,.l bs,.i p,.b false,.b pk,.l [],.l [],.l [],.l bt,.l (L.map Sv.e),.l []]=some (.brk 2 [.l bs,.i p',.b false,.b pk,.l [],.l [],.l [],.l bt,.l (L'.map Sv.e),.l []])∧L'.length=4∧(∀s,s∈L'→s.Sz 1000)∧p≤p'∧p'≤p+10*d:=by
 intro d
 induction d with
 |zero=>
  intro L p hn hL h0 h1
  refine ⟨L,p,aQ ?_,by omega,hL,by omega,by omega⟩
  have:¬((L.length:Int)<4):=by omega
  simp only[apL,jC,jD,aH.d2,C.I_i,this,decide_false,jS,C.L_l]
 |succ d ih=>
  intro L p hn hL h0 h1
  obtain ⟨k,hk,e⟩:=bI hb hl h0 (show p≤1125899906842624 by omega) (n:=5) (by omega) (by omega)
  have c0:(L.length:Int)<4:=by omega
  have c2:L.length+1≤4294967296:=by omega
  have hsv:∃sv:Str,((rows [[C.s (Go.Ev.bs #[99,97,99,104,101])],[C.s (Go.Ev.bs #[100,98])],[C.s (Go.Ev.bs #[106,111,98])],[C.s (Go.Ev.bs #[119,101,98])]]).getD L.length []).getD 0 .nil=.s sv∧sv.size≤10:=by
   generalize L.length=n at c0
   rcases n with _|_|_|_|n
   ·exact ⟨_,rfl,by decide⟩
   ·exact ⟨_,rfl,by decide⟩
   ·exact ⟨_,rfl,by decide⟩
   ·exact ⟨_,rfl,by decide⟩
   ·omega
  obtain ⟨sv,v1,v2⟩:=hsv
  have l1:(L.length:Int)<((rows [[C.s (Go.Ev.bs #[99,97,99,104,101])],[C.s (Go.Ev.bs #[100,98])],[C.s (Go.Ev.bs #[106,111,98])],[C.s (Go.Ev.bs #[119,101,98])]]).length:Int):=c0
  have ww:w64 ((L.length:Int)+1)=(((L++[(⟨sv,k⟩:Sv)]).length:Nat):Int):=by rw[aP (by omega) (by omega)];simp
  obtain ⟨L',p',q1,q2,q3,q4,q5⟩:=ih (L++[⟨sv,k⟩]) (p+1) (by simp;omega) (fun x hx=>by
   rcases List.mem_append.1 hx with hx|hx
   ·exact hL x hx
   ·rw[List.mem_singleton.1 hx];show sv.size≤1000;omega) (by omega) (by omega)
  refine ⟨L',p',?_,q2,q3,by omega,by omega⟩
  rw[←q1]
  apply aG
  simp only[apL,jC,jD,aH.d2,C.I_i,c0,l1,decide_true,jR,jX,jY,v1,e,call3,jI,C.L_l,jW]
  simp only[rows,List.length_cons,List.length_nil,Nat.zero_add,c2,ww,List.map_append,List.map_cons,List.map_nil,Sv.e,decide_true,jR]
section
variable {bts:List Bt} {svs:List Sv} {pk:Bool} (hbt:bts.length≤12∧∀b,b∈bts→b.Sz 1000) (hsv:svs.length≤30∧∀s,s∈svs→s.Sz 1000)
include hbt hsv
theorem Jl (k:C):∀(n:Nat) (f:Fl) (p:Int),Dr bts svs pk f→n≤20→0≤p→p≤1125899906842624-35000+(0-1000)*n→
  ∃(f':Fl) (p':Int),lim (js aH.d3) [k,.i n,.l bs,.i p,.b false,.b f.pack,.l (f.bts.map Bt.e),.l (f.svs.map Sv.e),.l (f.cps.map Cp.e),.l [],.l [],.l []]=some (.brk 4 [k,.l bs,.i p',.b false,.b f'.pack,.l (f'.bts.map Bt.e),.l (f'.svs.map Sv.e),.l (f'.cps.map Cp.e),.l [],.l [],.l []])∧Dr bts svs pk f'∧p≤p'∧p'≤p+1000*n:=by
 intro n
 induction n with
 |zero=>
  intro f p D hn h0 h1
  refine ⟨f,p,aQ ?_,D,by omega,by omega⟩
  rfl
 |succ n ih=>
  intro f p D hn h0 h1
  obtain ⟨c,p1,g1,a1,a2,a3⟩:=Hm hb hl (n:=n+1) (by omega) (p:=p) h0 (by omega)
  obtain ⟨x,code,e1,e2⟩:=D.ev3 hbt hsv a1
  have c0:(((n+1:Nat):Int)>0):=by omega
  have ww:w64 (((n+1:Nat):Int)-1)=(n:Int):=by rw[aP (by omega) (by omega)];omega
  have stp:js aH.d3 [k,.i (n+1:Nat),.l bs,.i p,.b false,.b f.pack,.l (f.bts.map Bt.e),.l (f.svs.map Sv.e),.l (f.cps.map Cp.e),.l [],.l [],.l []]=bif code==0 then some (.again [k,.i n,.l bs,.i p1,.b false,.b x.pack,.l (x.bts.map Bt.e),.l (x.svs.map Sv.e),.l (x.cps.map Cp.e),.l [],.l [],.l []]) else some (.again [k,.i n,.l bs,.i p1,.b false,.b f.pack,.l (f.bts.map Bt.e),.l (f.svs.map Sv.e),.l (f.cps.map Cp.e),.l [],.l [],.l []]):=by
   simp only[Fl.e,ev3,E0,Cp.e,jA,jB] at e1
   simp only[Cp.e,jA,jB] at g1
   simp only[apL,jC,jD,aH.d3,C.I_i,c0,decide_true,jR,g1,call14,jI,ao,e1,call5,C.L_l,ww]
  cases hq:(code==0) with
  |true=>
   obtain ⟨f',p',q1,q2,q3,q4⟩:=ih x p1 (e2 (by simpa using hq)) (by omega) (by omega) (by omega)
   refine ⟨f',p',?_,q2,by omega,by omega⟩
   rw[aG (by rw[stp,hq];rfl),q1]
  |false=>
   obtain ⟨f',p',q1,q2,q3,q4⟩:=ih f p1 D (by omega) (by omega) (by omega)
   refine ⟨f',p',?_,q2,by omega,by omega⟩
   rw[aG (by rw[stp,hq];rfl),q1]
end
end
end Go.Ev
namespace Go.Ev
section
variable {bs:List (List C)} (hb:BY bs) (hl:bs.length≤2000)
include hb hl
section
variable {bts:List Bt} {svs:List Sv} {pk:Bool} (hbt:(1≤bts.length∧bts.length≤12)∧∀b,b∈bts→b.Sz 1000) (hsv:svs.length≤30∧∀s,s∈svs→s.Sz 1000)
include hbt hsv
abbrev st5 (k:C) (i:Int) (bs:List (List C)) (p:Int) (f:Fl):List C:=[k,.i i,.l bs,.i p,.b false,.b f.pack,.l (f.bts.map Bt.e),.l (f.svs.map Sv.e),.l (f.cps.map Cp.e),.l [],.l [],.l []]
theorem Js (k:C) {f:Fl} (D:Dr bts svs pk f) {i:Nat} (hi:i<f.cps.length) (b:Bt) (hbb:b.name.size≤1000) (fl:Bool) (p:Int):
  ∃f',Af aH.d4 ([k,.i i,.b fl,.l bs,.i p,.b false]++f.e++b.e++[.l [],.l [],.l []])=some (.again (st5 k (i+1:Nat) bs p f'))∧Dr bts svs pk f':=by
 have hlc:f.cps.length<big:=by have:=D.n;simp only[big];omega
 obtain ⟨x,code,e1,e2⟩:=D.ev5 ⟨hbt.1.2,hbt.2⟩ hsv (nm:=f.cps[i].name) (at_:=b.name) hbb
 cases fl with
 |false=>
  refine ⟨f,?_,D⟩
  simp only[st5,Fl.e,Bt.e,jA,jB,apL,jC,jD,aH.d4,C.B_b,jS,C.I_i,w1 hi hlc,C.L_l]
 |true=>
  have stp:Af aH.d4 ([k,.i i,.b true,.l bs,.i p,.b false]++f.e++b.e++[.l [],.l [],.l []])=bif code==0 then some (.again (st5 k (i+1:Nat) bs p x)) else some (.again (st5 k (i+1:Nat) bs p f)):=by
   simp only[Fl.e,ev5,E0,jA,jB] at e1
   simp only[st5,Fl.e,Bt.e,jA,jB,apL,jC,jD,aH.d4,C.B_b,jR,C.I_i,w1 hi hlc,C.L_l,jW,ltL hi,jX,decide_true,jY]
   rw[getD_map' Cp.e hi]
   simp only[Cp.e,jC,jD,ao,e1,call5,jI,C.I_i,C.L_l]
  cases hq:(code==0) with
  |true=>exact ⟨x,by rw[stp,hq];rfl,e2 (by simpa using hq)⟩
  |false=>exact ⟨f,by rw[stp,hq];rfl,D⟩
theorem I6 (a:Int):∀(d i:Nat) (f:Fl) (p:Int),60≤i+d→Dr bts svs pk f→0≤p→p≤1125899906842624-20000+(0-10)*d→
  ∃(f':Fl) (p':Int),lim (js aH.d5) (st5 (.i a) i bs p f)=some (.brk 6 [.l bs,.i p',.b false,.b f'.pack,.l (f'.bts.map Bt.e),.l (f'.svs.map Sv.e),.l (f'.cps.map Cp.e),.l [],.l [],.l []])∧Dr bts svs pk f'∧p≤p'∧p'≤p+10*d:=by
 intro d
 induction d with
 |zero=>
  intro i f p hn D h0 h1
  refine ⟨f,p,aQ ?_,D,by omega,by omega⟩
  have:¬((i:Int)<(f.cps.length:Int)):=by have:=D.n;omega
  simp only[st5,apL,jC,jD,aH.d5,C.I_i,C.L_l,jW,this,decide_false,jS]
 |succ d ih=>
  intro i f p hn D h0 h1
  by_cases hi:i<f.cps.length
  ·have hlc:f.cps.length<big:=by have:=D.n;simp only[big];omega
   have hne:f.cps≠[]:=fun h=>by rw[h] at hi;simp at hi
   have hv:bL f=true:=D.v.resolve_left hne
   have hz:=(D.szD ⟨hbt.1.2,hbt.2⟩ hsv).up
   obtain ⟨m,hm,g1⟩:=bI hb hl h0 (show p≤1125899906842624 by omega) (n:=4) (by omega) (by omega)
   have hn1:f.bts.length=bts.length:=by rw[D.b]
   obtain ⟨j,hj,g2⟩:=bI hb hl (p:=p+1) (n:=(f.bts.length:Int)) (by omega) (by omega) (by omega) (by omega)
   have hj':j<f.bts.length:=by omega
   obtain ⟨t,ht,g3⟩:=bI hb hl (p:=p+1+1) (n:=8) (by omega) (by omega) (by omega) (by omega)
   have hcm:=List.getElem_mem hi
   have hbm:=List.getElem_mem hj'
   have vb:=ic hv
   have hf:=uF hz (hz.2.2.2 _ hcm) (hz.1.2 _ hbm) (vb.bb _ hbm) vb (vb.cb _ hcm).1 (vb.cb _ hcm).2.1 true
   have hbs:(f.bts[j]).name.size≤1000:=by
    have:f.bts[j]∈bts:=by rw[←D.b];exact hbm
    exact (hbt.2 _ this).1
   have key:∀(fl:Bool) (q:Int),p≤q→q≤p+10→∃(f':Fl) (p':Int),(∃ys,Af aH.d4 ([.i a,.i i,.b fl,.l bs,.i q,.b false]++f.e++f.bts[j].e++[.l [],.l [],.l []])=some (.again ys)∧lim (js aH.d5) ys=some (.brk 6 [.l bs,.i p',.b false,.b f'.pack,.l (f'.bts.map Bt.e),.l (f'.svs.map Sv.e),.l (f'.cps.map Cp.e),.l [],.l [],.l []]))∧Dr bts svs pk f'∧p≤p'∧p'≤p+10*(d+1:Nat):=fun fl q q1 q2=>by
    obtain ⟨x,r1,r2⟩:=Js hb hl hbt hsv (.i a) D hi f.bts[j] hbs fl q
    obtain ⟨f',p',r3,r4,r5,r6⟩:=ih (i+1) x q (by omega) r2 (by omega) (by omega)
    exact ⟨f',p',⟨_,r1,r3⟩,r4,by omega,by omega⟩
   have key0:∃(f':Fl) (p':Int),(∃ys,some (Out.again (st5 (.i a) (i+1:Nat) bs (p+1) f))=some (.again ys)∧lim (js aH.d5) ys=some (.brk 6 [.l bs,.i p',.b false,.b f'.pack,.l (f'.bts.map Bt.e),.l (f'.svs.map Sv.e),.l (f'.cps.map Cp.e),.l [],.l [],.l []]))∧Dr bts svs pk f'∧p≤p'∧p'≤p+10*(d+1:Nat):=by
    obtain ⟨f',p',r3,r4,r5,r6⟩:=ih (i+1) f (p+1) (by omega) D (by omega) (by omega)
    exact ⟨f',p',⟨_,rfl,r3⟩,r4,by omega,by omega⟩
   have stp:js aH.d5 (st5 (.i a) i bs p f)=bif decide ((m:Int)<a) then (bif !((cA f f.cps[i] f.bts[j] true:Nat):Int)==0 then bif decide (((cA f f.cps[i] f.bts[j] true:Nat):Int)<6) then Af aH.d4 ([.i a,.i i,.b ((t:Int)==0),.l bs,.i (p+1+1+1),.b false]++f.e++f.bts[j].e++[.l [],.l [],.l []]) else Af aH.d4 ([.i a,.i i,.b false,.l bs,.i (p+1+1),.b false]++f.e++f.bts[j].e++[.l [],.l [],.l []]) else Af aH.d4 ([.i a,.i i,.b true,.l bs,.i (p+1+1),.b false]++f.e++f.bts[j].e++[.l [],.l [],.l []])) else some (.again (st5 (.i a) (i+1:Nat) bs (p+1) f)):=by
    simp only[Fl.e,Cp.e,Bt.e,jA,jB] at hf
    simp only[st5,Fl.e,apL,jC,jD,aH.d5,C.I_i,C.L_l,jW,ltL hi,decide_true,jR,g1,call3,jI,g2,jX,ltL hj',jY,w1 hi hlc]
    rw[getD_map' Cp.e hi,getD_map' Bt.e hj']
    simp only[Cp.e,Bt.e,jC,jD,hf,aa,jI,C.I_i,g3,C.L_l]
    cases decide ((m:Int)<a)<;>cases (((cA f f.cps[i] f.bts[j] true:Nat):Int)==0)<;>cases decide (((cA f f.cps[i] f.bts[j] true:Nat):Int)<6)<;>rfl
   have fin:∃(f':Fl) (p':Int),(∃ys,js aH.d5 (st5 (.i a) i bs p f)=some (.again ys)∧lim (js aH.d5) ys=some (.brk 6 [.l bs,.i p',.b false,.b f'.pack,.l (f'.bts.map Bt.e),.l (f'.svs.map Sv.e),.l (f'.cps.map Cp.e),.l [],.l [],.l []]))∧Dr bts svs pk f'∧p≤p'∧p'≤p+10*(d+1:Nat):=by
    rw[stp]
    cases decide ((m:Int)<a) with
    |false=>exact key0
    |true=>
     cases (((cA f f.cps[i] f.bts[j] true:Nat):Int)==0) with
     |true=>exact key true _ (by omega) (by omega)
     |false=>
      cases decide (((cA f f.cps[i] f.bts[j] true:Nat):Int)<6) with
      |true=>exact key _ _ (by omega) (by omega)
      |false=>exact key false _ (by omega) (by omega)
   obtain ⟨f',p',⟨ys,r1,r2⟩,r3,r4,r5⟩:=fin
   exact ⟨f',p',by rw[aG r1,r2],r3,r4,r5⟩
  ·refine ⟨f,p,aQ ?_,D,by omega,by omega⟩
   have:¬((i:Int)<(f.cps.length:Int)):=by omega
   simp only[st5,apL,jC,jD,aH.d5,C.I_i,C.L_l,jW,this,decide_false,jS]
end
theorem GR {p:Int} (h0:0≤p) (h1:p≤1125899906842624-70000):
  ∃(f:Fl) (p':Int),aH [.l bs,.i p]=some (f.e++[.l bs,.i p'])∧f.Sz 1000∧(f.svs.length=4∧1≤f.bts.length)∧p≤p'∧p'≤p+30000:=by
 obtain ⟨c,hc,g1⟩:=bI hb hl h0 (show p≤1125899906842624 by omega) (n:=2) (by omega) (by omega)
 obtain ⟨n,hn,g2⟩:=bI hb hl (p:=p+1) (n:=5) (by omega) (by omega) (by omega) (by omega)
 have w2:w64 (1+(n:Int))=((n+1:Nat):Int):=by rw[aP (by omega) (by omega)];omega
 obtain ⟨bts,p1,q1,q2,q3,q4,q5⟩:=Jd hb hl ((c:Int)==0) (n+1) (n+1) [] (p+1+1) (by simp) (by omega) (fun b hb=>by simp at hb) (by omega) (by omega)
 obtain ⟨svs,p2,r1,r2,r3,r4,r5⟩:=Jt hb hl ((c:Int)==0) (bts.map Bt.e) 4 [] p1 (by simp) (fun b hb=>by simp at hb) (by omega) (by omega)
 obtain ⟨k,hk,g3⟩:=bI hb hl (p:=p2) (n:=4) (by omega) (by omega) (by omega) (by omega)
 obtain ⟨m,hm,g4⟩:=bI hb hl (p:=p2+1) (n:=14) (by omega) (by omega) (by omega) (by omega)
 have w3:w64 (1+(m:Int))=((m+1:Nat):Int):=by rw[aP (by omega) (by omega)];omega
 have D0:Dr bts svs ((c:Int)==0) ⟨((c:Int)==0),bts,svs,[]⟩:=⟨rfl,rfl,rfl,by simp,fun c hc=>by simp at hc,.inl rfl⟩
 obtain ⟨f1,p3,t1,t2,t3,t4⟩:=Jl hb hl ⟨by omega,q3⟩ ⟨by omega,r3⟩ (.i k) (m+1) _ (p2+1+1) D0 (by omega) (by omega) (by omega)
 obtain ⟨f2,p4,u1,u2,u3,u4⟩:=I6 hb hl ⟨⟨by omega,by omega⟩,q3⟩ ⟨by omega,r3⟩ (k:Int) 60 0 f1 p3 (by omega) t2 (by omega) (by omega)
 refine ⟨f2,p4,?_,u2.szD ⟨by omega,q3⟩ ⟨by omega,r3⟩,⟨by rw[u2.s,r2],by rw[u2.b];omega⟩,by omega,by omega⟩
 simp only[List.map_nil,List.length_nil,Int.natCast_zero] at q1 r1 t1 u1
 simp only[st5,Int.natCast_zero] at u1
 simp only[aH,aH.d10,apL,jC,jD,g1,g2,call3,jI,C.I_i,w2,ao,q1,aA,aH.d9,C.L_l,r1,aH.d8,g3,g4,w3,t1,aH.d7,u1,aH.d6]
 rfl
end
end Go.Ev
namespace Go.Ev
theorem Eo:∀(m n:Nat) (x acc:Str),n≤m→acc.size+n*x.size≤400→x.size≤800→n≤1000→
  ∃s:Str,lim (ap3 eI.d1) [.s x,.i n,.s acc]=some (.brk 0 [.s s])∧s.size≤400:=by
 intro m
 induction m with
 |zero=>
  intro n x acc hn h1 h2 h3
  obtain rfl:n=0:=by omega
  exact ⟨acc,aQ rfl,by omega⟩
 |succ m ih=>
  intro n x acc hn h1 h2 h3
  by_cases h0:n=0
  ·subst h0;exact ⟨acc,aQ rfl,by omega⟩
  ·have c0:((n:Int)>0):=by omega
   have hx:x.size≤400:=by
    have:1*x.size≤n*x.size:=Nat.mul_le_mul_right _ (by omega)
    omega
   have hd:n=2*(n/2)+n%2:=by omega
   have w:w64 ((n:Int).tdiv 2)=((n/2:Nat):Int):=by
    rw[show (n:Int).tdiv 2=((n/2:Nat):Int) by rw[Int.tdiv_eq_ediv_of_nonneg (by omega)];omega,aP (by omega) (by omega)]
   have t:(n:Int).tmod 2=((n%2:Nat):Int):=by rw[Int.tmod_eq_emod_of_nonneg (by omega)];omega
   have hs:(x++x).size=x.size+x.size:=ByteArray.size_append
   have hm:n*x.size=n/2*(x.size+x.size)+n%2*x.size:=by
    conv=>lhs;rw[hd]
    rw[Nat.add_mul,Nat.mul_add,Nat.mul_assoc,Nat.two_mul]
   have c1:x.size+x.size≤4294967296:=by omega
   have c2:acc.size+x.size≤4294967296:=by omega
   rcases Nat.mod_two_eq_zero_or_one n with e|e
   ·obtain ⟨s,g1,g2⟩:=ih (n/2) (x++x) acc (by omega) (by rw[hs];rw[e] at hm;omega) (by rw[hs];omega) (by omega)
    refine ⟨s,?_,g2⟩
    rw[←g1]
    apply aG
    simp only[apL,jC,jD,eI.d1,C.I_i,C.S_s,c0,decide_true,jR,t,e,w,c1,show (((0:Nat):Int)==1)=false from rfl,jS]
   ·obtain ⟨s,g1,g2⟩:=ih (n/2) (x++x) (acc++x) (by omega) (by rw[hs,ByteArray.size_append];rw[e] at hm;omega) (by rw[hs];omega) (by omega)
    refine ⟨s,?_,g2⟩
    rw[←g1]
    apply aG
    simp only[apL,jC,jD,eI.d1,C.I_i,C.S_s,c0,decide_true,jR,t,e,w,c1,c2,show (((1:Nat):Int)==1)=true from rfl]
theorem Dp (x:Str) (n:Nat) (h1:n≤300) (h2:x.size=1):∃s:Str,eI [.s x,.i n]=some [.s s]∧s.size≤400:=by
 have e0:(Go.Ev.bs #[]).size=0:=rfl
 obtain ⟨s,g1,g2⟩:=Eo n n x (Go.Ev.bs #[]) (by omega) (by rw[e0,h2];omega) (by omega) (by omega)
 refine ⟨s,?_,g2⟩
 simp only[eI,eI.d3,apL,jC,jD,g1,aA,eI.d2]
 rfl
section
variable {bs:List (List C)} (hb:BY bs) (hl:bs.length≤2000)
include hb hl
theorem Hp (pk:Bool) (sv:List (List C)) (p:Int):∀(d:Nat) (L:List Bt),L.length+d=2→(∀b,b∈L→b.Sz 1000)→
  ∃L':List Bt,lim (AI cF.d1) [.i L.length,.l bs,.i p,.b false,.b pk,.l [],.l [],.l [],.l (L.map Bt.e),.l sv,.l []]=some (.brk 0 [.l bs,.i p,.b false,.b pk,.l [],.l [],.l [],.l (L'.map Bt.e),.l sv,.l []])∧L'.length=2∧(∀b,b∈L'→b.Sz 1000):=by
 intro d
 induction d with
 |zero=>
  intro L hn hL
  refine ⟨L,aQ ?_,by omega,hL⟩
  have:¬((L.length:Int)<2):=by omega
  simp only[apL,jC,jD,cF.d1,C.I_i,this,decide_false,jS,C.L_l]
 |succ d ih=>
  intro L hn hL
  obtain ⟨s,g2,hs⟩:=Db (n:=L.length) (by omega)
  have b1:(Go.Ev.bs #[98]).size=1:=rfl
  have c0:(L.length:Int)<2:=by omega
  have c1:1+s.size≤4294967296:=by omega
  have c2:L.length+1≤4294967296:=by omega
  have ww:w64 ((L.length:Int)+1)=(((L++[(⟨Go.Ev.bs #[98]++s,Go.Ev.bs #[101,97,115,116],[],30,30,false⟩:Bt)]).length:Nat):Int):=by rw[aP (by omega) (by omega)];simp
  obtain ⟨L',q1,q2,q3⟩:=ih (L++[⟨Go.Ev.bs #[98]++s,Go.Ev.bs #[101,97,115,116],[],30,30,false⟩]) (by simp;omega) (fun x hx=>by
   rcases List.mem_append.1 hx with hx|hx
   ·exact hL x hx
   ·rw[List.mem_singleton.1 hx]
    exact ⟨by show (Go.Ev.bs #[98]++s).size≤1000;rw[ByteArray.size_append,b1];omega,by show (Go.Ev.bs #[101,97,115,116]).size≤1000;decide,by show 0≤1000;decide,fun m hm=>by simp at hm⟩)
  refine ⟨L',?_,q2,q3⟩
  rw[←q1]
  apply aG
  simp only[apL,jC,jD,cF.d1,C.I_i,c0,decide_true,jR,g2,aa,jI,C.S_s,b1,c1,C.L_l,jW,rows,List.length_cons,List.length_nil,Nat.zero_add,c2,ww,List.map_append,List.map_cons,List.map_nil,Bt.e,ao]
theorem HD (pk:Bool) (bt sv:List (List C)) (A:Nat) (hA:A≤10):∀(d:Nat) (L:List Cp) (p:Int),L.length+d=A+2→(∀s,s∈L→s.Sz 1000)→0≤p→p≤1125899906842624-1000+(0-10)*d→
  ∃(L':List Cp) (p':Int),lim (js cF.d2) [.i A,.i L.length,.l bs,.i p,.b false,.b pk,.l [],.l [],.l [],.l bt,.l sv,.l (L.map Cp.e)]=some (.brk 2 [.l bs,.i p',.b false,.b pk,.l [],.l [],.l [],.l bt,.l sv,.l (L'.map Cp.e)])∧L'.length≤20∧(∀s,s∈L'→s.Sz 1000)∧p≤p'∧p'≤p+10*d:=by
 intro d
 have w2:w64 ((A:Int)+2)=(A:Int)+2:=aP (by omega) (by omega)
 induction d with
 |zero=>
  intro L p hn hL h0 h1
  refine ⟨L,p,aQ ?_,by omega,hL,by omega,by omega⟩
  have:¬((L.length:Int)<(A:Int)+2):=by omega
  simp only[apL,jC,jD,cF.d2,C.I_i,w2,this,decide_false,jS,C.L_l]
 |succ d ih=>
  intro L p hn hL h0 h1
  obtain ⟨k,hk,g1⟩:=bI hb hl h0 (show p≤1125899906842624 by omega) (n:=3) (by omega) (by omega)
  obtain ⟨m,hm,g2⟩:=bI hb hl (p:=p+1) (n:=2) (by omega) (by omega) (by omega) (by omega)
  obtain ⟨t,ht,g3⟩:=bI hb hl (p:=p+1+1) (n:=3) (by omega) (by omega) (by omega) (by omega)
  obtain ⟨u,hu,g4⟩:=bI hb hl (p:=p+1+1+1) (n:=4) (by omega) (by omega) (by omega) (by omega)
  have mb:∀x:C,(kq (rows [[x]])).size=1:=fun _=>rfl
  have b1:(Go.Ev.bs #[99]).size=1:=rfl
  have c0:(L.length:Int)<(A:Int)+2:=by omega
  have c2:L.length+1≤4294967296:=by omega
  have c1:1+1≤4294967296:=by omega
  have w:w64 ((L.length:Int)+1)=(((L.length+1:Nat)):Int):=by rw[aP (by omega) (by omega)];rfl
  have key:∀(c:Cp) (q:Int),c.Sz 1000→p≤q→q≤p+10→∃(L':List Cp) (p':Int),(∃ys,some (Out.again [.i A,.i (L.length+1:Nat),.l bs,.i q,.b false,.b pk,.l [],.l [],.l [],.l bt,.l sv,.l (L.map Cp.e++[c.e])])=some (.again ys)∧lim (js cF.d2) ys=some (.brk 2 [.l bs,.i p',.b false,.b pk,.l [],.l [],.l [],.l bt,.l sv,.l (L'.map Cp.e)]))∧L'.length≤20∧(∀s,s∈L'→s.Sz 1000)∧p≤p'∧p'≤p+10*(d+1:Nat):=fun c q hc q1 q2=>by
   obtain ⟨L',p',r1,r2,r3,r4,r5⟩:=ih (L++[c]) q (by simp;omega) (fun x hx=>by
    rcases List.mem_append.1 hx with hx|hx
    ·exact hL x hx
    ·rw[List.mem_singleton.1 hx];exact hc) (by omega) (by omega)
   rw[List.length_append,List.map_append] at r1
   exact ⟨L',p',⟨_,rfl,r1⟩,r2,r3,by omega,by omega⟩
  have csz:∀(y:C) (rk rm:Int) (fx a:Str),fx.size≤10→a.size≤10→(Cp.mk (Go.Ev.bs #[99]++kq (rows [[y]])) (Go.Ev.bs #[119,101,98]) rk 0 1 rm (Go.Ev.bs #[]) [] 0 (Go.Ev.bs #[]) fx a).Sz 1000:=fun y rk rm fx a h1 h2=>
   ⟨by show (Go.Ev.bs #[99]++kq (rows [[y]])).size≤1000;rw[ByteArray.size_append,b1,mb];decide,by show (Go.Ev.bs #[119,101,98]).size≤1000;decide,by show (Go.Ev.bs #[]).size≤1000;decide,by show (Go.Ev.bs #[]).size≤1000;decide,by show fx.size≤1000;omega,by show a.size≤1000;omega,by show 0≤1000;decide,fun x hx=>by simp at hx⟩
  have fin:∃(L':List Cp) (p':Int),(∃ys,js cF.d2 [.i A,.i L.length,.l bs,.i p,.b false,.b pk,.l [],.l [],.l [],.l bt,.l sv,.l (L.map Cp.e)]=some (.again ys)∧lim (js cF.d2) ys=some (.brk 2 [.l bs,.i p',.b false,.b pk,.l [],.l [],.l [],.l bt,.l sv,.l (L'.map Cp.e)]))∧L'.length≤20∧(∀s,s∈L'→s.Sz 1000)∧p≤p'∧p'≤p+10*(d+1:Nat):=by
   simp only[apL,jC,jD,cF.d2,C.I_i,w2,c0,decide_true,jR,C.S_s,b1,mb,c1,g1,g2,g3,g4,call3,jI,C.L_l,jW,w]
   cases decide ((L.length:Int)<(A:Int)) with
   |true=>
    simp only[jR,rows,List.length_cons,List.length_nil,Nat.zero_add,c2,decide_true]
    exact key (Cp.mk (Go.Ev.bs #[99]++kq (rows [[_]])) (Go.Ev.bs #[119,101,98]) k 0 1 m (Go.Ev.bs #[]) [] 0 (Go.Ev.bs #[]) (Go.Ev.bs #[]) (Go.Ev.bs #[98,48])) _ (csz _ _ _ _ _ (by decide) (by decide)) (by omega) (by omega)
   |false=>
    cases decide ((t:Int)>0) with
    |true=>
     simp only[jR,jS,rows,List.length_cons,List.length_nil,Nat.zero_add,c2,decide_true]
     exact key (Cp.mk (Go.Ev.bs #[99]++kq (rows [[_]])) (Go.Ev.bs #[119,101,98]) (w64 (1+(u:Int))) 0 1 m (Go.Ev.bs #[]) [] 0 (Go.Ev.bs #[]) (Go.Ev.bs #[98,48]) (Go.Ev.bs #[])) _ (csz _ _ _ _ _ (by decide) (by decide)) (by omega) (by omega)
    |false=>
     simp only[jR,jS,rows,List.length_cons,List.length_nil,Nat.zero_add,c2,decide_true]
     exact key (Cp.mk (Go.Ev.bs #[99]++kq (rows [[_]])) (Go.Ev.bs #[119,101,98]) k 0 1 m (Go.Ev.bs #[]) [] 0 (Go.Ev.bs #[]) (Go.Ev.bs #[]) (Go.Ev.bs #[])) _ (csz _ _ _ _ _ (by decide) (by decide)) (by omega) (by omega)
  obtain ⟨L',p',⟨ys,r1,r2⟩,r3⟩:=fin
  exact ⟨L',p',by rw[aG r1,r2],r3⟩
theorem HQ {p:Int} (h0:0≤p) (h1:p≤1125899906842624-70000):
  ∃(f:Fl) (p':Int),cF [.l bs,.i p]=some [.b f.pack,.l bs,.i p',.l (f.bts.map Bt.e),.l (f.svs.map Sv.e),.l (f.cps.map Cp.e)]∧f.Sz 1000∧p≤p'∧p'≤p+30000:=by
 obtain ⟨c,hc,g1⟩:=bI hb hl h0 (show p≤1125899906842624 by omega) (n:=2) (by omega) (by omega)
 obtain ⟨n,hn,g2⟩:=bI hb hl (p:=p+1) (n:=9) (by omega) (by omega) (by omega) (by omega)
 obtain ⟨k,hk,g3⟩:=bI hb hl (p:=p+1+1) (n:=2) (by omega) (by omega) (by omega) (by omega)
 obtain ⟨bts,q1,q2,q3⟩:=Hp hb hl ((c:Int)==0) [[.s (Go.Ev.bs #[119,101,98]),.i n]] (p+1+1) 2 [] (by simp) (fun b hb=>by simp at hb)
 have w2:w64 (10-(k:Int))=((10-k:Nat):Int):=by rw[aP (by omega) (by omega)];omega
 obtain ⟨cps,p',r1,r2,r3,r4,r5⟩:=HD hb hl ((c:Int)==0) (bts.map Bt.e) [[.s (Go.Ev.bs #[119,101,98]),.i n]] (10-k) (by omega) (10-k+2) [] (p+1+1+1) (by simp) (fun b hb=>by simp at hb) (by omega) (by omega)
 refine ⟨⟨((c:Int)==0),bts,[⟨Go.Ev.bs #[119,101,98],n⟩],cps⟩,p',?_,⟨⟨by show bts.length≤1000;omega,q3⟩,⟨by show 1≤1000;decide,fun s hs=>?_⟩,by show cps.length≤1000;omega,r3⟩,by omega,by omega⟩
 ·simp only[List.map_nil,List.length_nil,Int.natCast_zero] at q1 r1
  simp only[cF,cF.d5,apL,jC,jD,g1,g2,g3,call3,jI,C.I_i,w2,ao,rows,q1,aA,cF.d4,C.L_l,r1,cF.d3]
  rfl
 ·rw[List.mem_singleton.1 hs];show (Go.Ev.bs #[119,101,98]).size≤1000;decide
end
end Go.Ev
set_option maxHeartbeats 2000000
namespace Go.Ev
abbrev spR (bs:List (List C)) (g:Fl) (p:Int):List C:=[.b g.pack,.l (g.cps.map Cp.e),.l bs,.i p,.l (g.bts.map Bt.e),.l (g.svs.map Sv.e)]
abbrev spN (bs:List (List C)) (g:Fl) (p:Int):R:=some (.nrm [.l bs,.i p,.b false,.b g.pack,.l (g.cps.map Cp.e),.l [],.l [],.l [],.l (g.bts.map Bt.e),.l (g.svs.map Sv.e)])
theorem IT {bs:List (List C)} {X:R} {a b:Int} (h:∃(g:Fl) (p:Int),X=spN bs g p∧g.Sz 1048576∧a≤p∧p≤b):∃(g:Fl) (p:Int),aV (bf X (tn bJ.d4))=some (spR bs g p)∧g.Sz 1048576∧a≤p∧p≤b:=by
 obtain ⟨g,p,h1,h2⟩:=h
 exact ⟨g,p,by rw[h1];rfl,h2⟩
theorem CA (L:List Str) (hL:∀s,s∈L→s.size≤400) {x:Nat} (h:x<L.length):∃v:Str,((L.map sE).getD x []).getD 0 .nil=.s v∧v.size≤400:=
 ⟨L[x],by rw[getD_map' sE h];rfl,hL _ (List.getElem_mem h)⟩
theorem EW (L:List Int) {x:Nat} (h:x<L.length):∃v:Int,((L.map fun n=>[C.i n]).getD x []).getD 0 .nil=.i v:=
 ⟨L[x],by rw[getD_map' (fun n=>[C.i n]) h];rfl⟩
theorem JN (L:List (List Str)) (hL:∀s,s∈L→s.length≤20∧∀m,m∈s→m.size≤20) {x:Nat} (h:x<L.length):∃v:List Str,((L.map fun m=>[C.l (m.map sE)]).getD x []).getD 0 .nil=.l (v.map sE)∧v.length≤20∧∀m,m∈v→m.size≤20:=
 ⟨L[x],by rw[getD_map' (fun m=>[C.l (m.map sE)]) h];rfl,hL _ (List.getElem_mem h)⟩
theorem rX {α:Type} {e:α→List C} {l:List α} {k:Nat} (hk:k<l.length) {i:Nat} {v:List C} {b:α} (h:aK (e l[k]) i v=e b):(l.map e).set k (aK ((l.map e).getD k []) i v)=(l.set k b).map e:=by
 rw[getD_map' e hk,h,List.map_set]
theorem DJ {f:Fl} (hz:f.Sz 1000) {b:Bt} (hb:b.Sz 1048576) (k:Nat):({f with bts:=f.bts.set k b}:Fl).Sz 1048576:=
 ⟨⟨by show (f.bts.set k b).length≤_;rw[List.length_set];exact hz.up.1.1,fun x hx=>(List.mem_or_eq_of_mem_set hx).elim (hz.up.1.2 x) (fun h=>h▸hb)⟩,hz.up.2⟩
theorem Jb {f:Fl} (hz:f.Sz 1000) {b:Sv} (hb:b.Sz 1048576) (k:Nat):({f with svs:=f.svs.set k b}:Fl).Sz 1048576:=
 ⟨hz.up.1,⟨by show (f.svs.set k b).length≤_;rw[List.length_set];exact hz.up.2.1.1,fun x hx=>(List.mem_or_eq_of_mem_set hx).elim (hz.up.2.1.2 x) (fun h=>h▸hb)⟩,hz.up.2.2⟩
theorem uB {f:Fl} (hz:f.Sz 1000) {b:Cp} (hb:b.Sz 1048576) (k:Nat):({f with cps:=f.cps.set k b}:Fl).Sz 1048576:=
 ⟨hz.up.1,hz.up.2.1,by show (f.cps.set k b).length≤_;rw[List.length_set];exact hz.up.2.2.1,fun x hx=>(List.mem_or_eq_of_mem_set hx).elim (hz.up.2.2.2 x) (fun h=>h▸hb)⟩
theorem CS (l:List Cp):List.all (l.map Cp.e) (pR [.str,.str,(.int .i64),(.int .i64),(.int .i64),(.int .i64),.str,(.sl 109),(.int .i64),.str,.str,.str])=true:=by
 rw[List.all_eq_true]
 intro x hx
 obtain ⟨c,_,rfl⟩:=List.mem_map.1 hx
 rfl
theorem trS {l:List Cp} {n:Nat} (h:n<l.length) (x:List C) (y:Lk) (hy:y.e=x):
  ((l.map Cp.e).set n (aK ((l.map Cp.e).getD n []) 7 [.nil])).set n (aK (((l.map Cp.e).set n (aK ((l.map Cp.e).getD n []) 7 [.nil])).getD n []) 7 [.l ((((l.map Cp.e).getD n []).getD 7 .nil).L++[x])])=(l.set n {l[n] with likes:=l[n].likes++[y]}).map Cp.e:=by
 have h0:n<(l.map Cp.e).length:=by rw[jW];exact h
 rw[List.set_set]
 have h1:((l.map Cp.e).set n (aK ((l.map Cp.e).getD n []) 7 [.nil])).getD n []=aK ((l.map Cp.e).getD n []) 7 [.nil]:=by
  rw[List.getD_eq_getElem?_getD,List.getElem?_set_self h0];rfl
 rw[h1,getD_map' Cp.e h,List.map_set]
 congr 1
 simp only[Cp.e,aK,jC,jD,C.L_l,List.map_append,List.map_cons,List.map_nil,hy]
 rfl
section
variable {bs:List (List C)} (hb:BY bs) (hl:bs.length≤2000)
include hb hl
theorem Ja (pk:Bool) (bt sv:List (List C)) (n B:Nat) (hB:B≤20):∀(d:Nat) (l:List Cp) (p:Int) (hn:n<l.length),B≤l[n].likes.length+d→d≤20→(∀c,c∈l→c.Sz 1048576)→0≤p→p≤1125899906842624-1000+(0-10)*d→
  ∃(l':List Cp) (p':Int),lim (js bJ.d1) [.i n,.i B,.l bs,.i p,.b false,.b pk,.l [],.l [],.l [],.l bt,.l sv,.l (l.map Cp.e)]=some (.brk 1 [.l bs,.i p',.b false,.b pk,.l [],.l [],.l [],.l bt,.l sv,.l (l'.map Cp.e)])∧l'.length=l.length∧(∀c,c∈l'→c.Sz 1048576)∧p≤p'∧p'≤p+10*d:=by
 intro d
 induction d with
 |zero=>
  intro l p hn hd hd2 hL h0 h1
  refine ⟨l,p,aQ ?_,rfl,hL,by omega,by omega⟩
  have:¬((l[n].likes.length:Int)<(B:Int)):=by omega
  simp only[apL,jC,jD,bJ.d1,C.I_i,C.L_l,jW,jY,ltL hn,jX,decide_true,jR]
  rw[getD_map' Cp.e hn]
  simp only[Cp.e,jC,jD,C.L_l,jW,this,decide_false,jS]
 |succ d ih=>
  intro l p hn hd hd2 hL h0 h1
  by_cases hlt:l[n].likes.length<B
  ·obtain ⟨k,hk,g1⟩:=bI hb hl h0 (show p≤1125899906842624 by omega) (n:=2) (by omega) (by omega)
   obtain ⟨m,hm,g2⟩:=bI hb hl (p:=p+1) (n:=2) (by omega) (by omega) (by omega) (by omega)
   have hc:=hL _ (List.getElem_mem hn)
   have he:Lk.e ⟨Go.Ev.bs #[],w64 (9+w64 ((k:Int)*(m:Int)))⟩=[.s (Go.Ev.bs #[]),.i (w64 (9+w64 ((k:Int)*(m:Int))))]:=rfl
   have ht:=trS hn _ _ he
   have hn':n<(l.set n {l[n] with likes:=l[n].likes++[⟨Go.Ev.bs #[],w64 (9+w64 ((k:Int)*(m:Int)))⟩]}).length:=by rw[List.length_set];exact hn
   obtain ⟨l',p',q1,q2,q3,q4,q5⟩:=ih (l.set n {l[n] with likes:=l[n].likes++[⟨Go.Ev.bs #[],w64 (9+w64 ((k:Int)*(m:Int)))⟩]}) (p+1+1) hn' (by rw[List.getElem_set_self];show B≤(l[n].likes++[_]).length+d;rw[List.length_append];simp only[List.length_cons,List.length_nil];omega) (by omega) (fun c hc'=>by
    rcases List.mem_or_eq_of_mem_set hc' with hc'|rfl
    ·exact hL c hc'
    ·refine ⟨hc.1,hc.2.1,hc.2.2.1,hc.2.2.2.1,hc.2.2.2.2.1,hc.2.2.2.2.2.1,?_,fun x hx=>?_⟩
     ·show (l[n].likes++[_]).length≤_
      rw[List.length_append];simp only[List.length_cons,List.length_nil];omega
     ·rcases List.mem_append.1 hx with hx|hx
      ·exact hc.2.2.2.2.2.2.2 x hx
      ·rw[List.mem_singleton.1 hx];show (Go.Ev.bs #[]).size≤_;decide) (by omega) (by omega)
   refine ⟨l',p',?_,by rw[q2,List.length_set],q3,by omega,by omega⟩
   rw[←q1]
   apply aG
   have c1:(l[n].likes.length:Int)<(B:Int):=by omega
   have c2:l[n].likes.length+1≤4294967296:=by omega
   have hg7:(((l.map Cp.e).getD n []).getD 7 .nil).L.length=l[n].likes.length:=by rw[getD_map' Cp.e hn];simp[Cp.e]
   simp only[apL,jC,jD,bJ.d1,C.I_i,C.L_l,jW,jY,ltL hn,jX,decide_true,jR,hg7,c1,g1,g2,call3,jI,rows,List.length_cons,List.length_nil,Nat.zero_add,c2,List.length_set,ht,CS]
  ·refine ⟨l,p,aQ ?_,rfl,hL,by omega,by omega⟩
   have:¬((l[n].likes.length:Int)<(B:Int)):=by omega
   simp only[apL,jC,jD,bJ.d1,C.I_i,C.L_l,jW,jY,ltL hn,jX,decide_true,jR]
   rw[getD_map' Cp.e hn]
   simp only[Cp.e,jC,jD,C.L_l,jW,this,decide_false,jS]
omit hb hl in
theorem Jy (pk:Bool) (bts:List Bt) (sv:List (List C)) {k:Nat} (hk:k<bts.length) (hz:bts[k].name.size≤1000) (p:Int) (B:Nat) (hB:B≤20):∀(d:Nat) (L:List Cp),L.length+d=B→(∀c,c∈L→c.Sz 1048576)→
  ∃L':List Cp,lim (oU bJ.d3) [.i k,.i B,.i L.length,.l bs,.i p,.b false,.b pk,.l [],.l [],.l [],.l (bts.map Bt.e),.l sv,.l (L.map Cp.e)]=some (.brk 3 [.l bs,.i p,.b false,.b pk,.l [],.l [],.l [],.l (bts.map Bt.e),.l sv,.l (L'.map Cp.e)])∧L'.length≤20∧(∀c,c∈L'→c.Sz 1048576):=by
 intro d
 induction d with
 |zero=>
  intro L hn hL
  refine ⟨L,aQ ?_,by omega,hL⟩
  have:¬((L.length:Int)<(B:Int)):=by omega
  simp only[apL,jC,jD,bJ.d3,C.I_i,this,decide_false,jS,C.L_l]
 |succ d ih=>
  intro L hn hL
  have mb:∀x:C,(kq (rows [[x]])).size=1:=fun _=>rfl
  have b1:(Go.Ev.bs #[99]).size=1:=rfl
  have c0:(L.length:Int)<(B:Int):=by omega
  have c1:1+1≤4294967296:=by omega
  have c2:L.length+1≤4294967296:=by omega
  have w:w64 ((L.length:Int)+1)=(((L.length+1:Nat)):Int):=by rw[aP (by omega) (by omega)];rfl
  let c:Cp:=⟨Go.Ev.bs #[99]++kq (rows [[.i (IntKind.wrap .u8 (w64 (97+(L.length:Int))))]]),Go.Ev.bs #[119,101,98],0,0,0,0,Go.Ev.bs #[],[],0,Go.Ev.bs #[],Go.Ev.bs #[],bts[k].name⟩
  have hc:c.Sz 1048576:=⟨by show (Go.Ev.bs #[99]++kq (rows [[_]])).size≤_;rw[ByteArray.size_append,b1,mb];decide,by show (Go.Ev.bs #[119,101,98]).size≤_;decide,by show (Go.Ev.bs #[]).size≤_;decide,by show (Go.Ev.bs #[]).size≤_;decide,by show (Go.Ev.bs #[]).size≤_;decide,by show bts[k].name.size≤_;omega,by show 0≤_;decide,fun x hx=>by simp[c] at hx⟩
  obtain ⟨L',q1,q2,q3⟩:=ih (L++[c]) (by simp;omega) (fun x hx=>by
   rcases List.mem_append.1 hx with hx|hx
   ·exact hL x hx
   ·rw[List.mem_singleton.1 hx];exact hc)
  refine ⟨L',?_,q2,q3⟩
  rw[←q1]
  apply aG
  simp only[apL,jC,jD,bJ.d3,C.I_i,c0,decide_true,jR,C.S_s,b1,mb,c1,C.L_l,jW,w,ltL hk,jX,jY,List.length_append,List.map_append]
  rw[getD_map' Bt.e hk]
  simp only[rows,List.length_cons,List.length_nil,Nat.zero_add,c2,decide_true,jR,Bt.e,jC,ao]
  rfl
theorem FO {f:Fl} (hz:f.Sz 1000) (hs:f.svs.length=4) (hb1:1≤f.bts.length) {p:Int} (h0:0≤p) (h1:p≤1125899906842624-10000):
  ∃(g:Fl) (p':Int),bJ (f.e++[.l bs,.i p])=some (spR bs g p')∧g.Sz 1048576∧p≤p'∧p'≤p+1000:=by
 have hF:=kY hz.up
 have hbl:=hz.1.1
 have hcl:=hz.2.2.1
 obtain ⟨k,hk,g1⟩:=bI hb hl h0 (show p≤1125899906842624 by omega) (n:=(f.bts.length:Int)) (by omega) (by omega)
 have hk':k<f.bts.length:=by omega
 have hbk:=(hz.1.2 _ (List.getElem_mem hk')).up
 have hbk0:=hz.1.2 _ (List.getElem_mem hk')
 have nb:((f.bts.length:Int)==0)=false:=by rw[beq_eq_false_iff_ne];omega
 simp only[Fl.e] at hF
 by_cases hc0:f.cps.length=0
 ·have g2:=J0 (bs:=bs) (p:=p+1) (n:=(f.cps.length:Int)) (by omega) (by omega) (by omega)
  have nc:((f.cps.length:Int)==0)=true:=by rw[hc0];rfl
  refine ⟨⟨false,[],[⟨Go.Ev.bs #[],0⟩],[]⟩,p+1+1,?_,⟨⟨by show 0≤_;decide,fun b hb=>by simp at hb⟩,⟨by show 1≤_;decide,fun s hs=>by rw[List.mem_singleton.1 hs];show (Go.Ev.bs #[]).size≤_;decide⟩,by show 0≤_;decide,fun b hb=>by simp at hb⟩,by omega,by omega⟩
  simp only[bJ,bJ.d5,Fl.e,jA,jB,apL,jC,jD,hF,call4,jI,C.L_l,jW,g1,g2,call3,nb,nc,ja,jR,jV]
  rfl
 obtain ⟨n,hn,g2⟩:=bI hb hl (p:=p+1) (n:=(f.cps.length:Int)) (by omega) (by omega) (by omega) (by omega)
 have hn':n<f.cps.length:=by omega
 have hcn:=(hz.2.2.2 _ (List.getElem_mem hn')).up
 have nc:((f.cps.length:Int)==0)=false:=by rw[beq_eq_false_iff_ne];omega
 obtain ⟨q,hq,g3⟩:=bI hb hl (p:=p+1+1) (n:=16) (by omega) (by omega) (by omega) (by omega)
 simp only[bJ,bJ.d5,Fl.e,jA,jB,apL,jC,jD,hF,call4,jI,C.L_l,C.I_i,jW,g1,g2,call3,nb,nc,ja,jR,jS]
 refine IT ?_
 rw[g3]
 simp only[jI,jC,jD,C.I_i]
 have hqq:q=0∨q=1∨q=2∨q=3∨q=4∨q=5∨q=6∨q=7∨q=8∨q=9∨q=10∨q=11∨q=12∨q=13∨q=14∨q=15:=by omega
 rcases hqq with rfl|rfl|rfl|rfl|rfl|rfl|rfl|rfl|rfl|rfl|rfl|rfl|rfl|rfl|rfl|rfl
 ·simp only[show ((((0:Nat):Int))==0)=true from rfl,jR,jS]
  obtain ⟨t,ht,g4⟩:=bI hb hl (p:=p+1+1+1) (n:=2) (by omega) (by omega) (by omega) (by omega)
  have w20:w64 (20+(t:Int))=((20+t:Nat):Int):=by rw[aP (by omega) (by omega)];omega
  obtain ⟨w,gm,hw⟩:=Dp (Go.Ev.bs #[110]) (20+t) (by omega) rfl
  obtain ⟨x,hx,g5⟩:=bI hb hl (p:=p+1+1+1+1) (n:=4) (by omega) (by omega) (by omega) (by omega)
  obtain ⟨v,v1,v2⟩:=CA [Go.Ev.bs #[],Go.Ev.bs #[65],Go.Ev.bs #[122,122],w] (by intro s hs;simp only[List.mem_cons,List.not_mem_nil,or_false] at hs;rcases hs with rfl|rfl|rfl|rfl<;>first|assumption|decide) (x:=x) (by simp only[List.length_cons,List.length_nil];omega)
  simp only[List.map_cons,List.map_nil,sE] at v1
  have l1:((x:Nat):Int)<((4:Nat):Int):=by omega
  have st:(f.bts.map Bt.e).set k (aK ((f.bts.map Bt.e).getD k []) 0 [.s v])=(f.bts.set k {f.bts[k] with name:=v}).map Bt.e:=rX hk' rfl
  simp only[g4,g5,gm,w20,call3,aa,jI,jC,jD,C.I_i,jX,decide_true,jR,rows,List.length_cons,List.length_nil,Nat.zero_add,Nat.reduceAdd,jY,ao,l1,v1,ltL hk',st]
  exact ⟨{f with bts:=f.bts.set k {f.bts[k] with name:=v}},p+1+1+1+1+1,rfl,DJ hz (b:= {f.bts[k] with name:=v}) ⟨Nat.le_trans v2 (by decide),hbk.2⟩ k,by omega,by omega⟩
 ·simp only[show ((((1:Nat):Int))==0)=false from rfl,show ((((1:Nat):Int))==1)=true from rfl,jR,jS]
  obtain ⟨x,hx,g4⟩:=bI hb hl (p:=p+1+1+1) (n:=2) (by omega) (by omega) (by omega) (by omega)
  obtain ⟨v,v1,v2⟩:=CA [Go.Ev.bs #[],Go.Ev.bs #[120,32,121]] (by intro s hs;simp only[List.mem_cons,List.not_mem_nil,or_false] at hs;rcases hs with rfl|rfl<;>first|assumption|decide) (x:=x) (by simp only[List.length_cons,List.length_nil];omega)
  simp only[List.map_cons,List.map_nil,sE] at v1
  have l1:((x:Nat):Int)<((2:Nat):Int):=by omega
  have st:(f.bts.map Bt.e).set k (aK ((f.bts.map Bt.e).getD k []) 1 [.s v])=(f.bts.set k {f.bts[k] with zone:=v}).map Bt.e:=rX hk' rfl
  simp only[g4,call3,aa,jI,jC,jD,C.I_i,jX,decide_true,jR,rows,List.length_cons,List.length_nil,Nat.zero_add,Nat.reduceAdd,jY,ao,l1,v1,ltL hk',st]
  exact ⟨{f with bts:=f.bts.set k {f.bts[k] with zone:=v}},p+1+1+1+1,rfl,DJ hz (b:= {f.bts[k] with zone:=v}) ⟨hbk.1,Nat.le_trans v2 (by decide),hbk.2.2⟩ k,by omega,by omega⟩
 ·simp only[show ((((2:Nat):Int))==0)=false from rfl,show ((((2:Nat):Int))==1)=false from rfl,show ((((2:Nat):Int))==2)=true from rfl,jR,jS]
  obtain ⟨x,hx,g4⟩:=bI hb hl (p:=p+1+1+1) (n:=6) (by omega) (by omega) (by omega) (by omega)
  obtain ⟨v,v1,v2,v3⟩:=JN [[Go.Ev.bs #[98],Go.Ev.bs #[97]],[Go.Ev.bs #[97],Go.Ev.bs #[97,61,98]],[Go.Ev.bs #[97,61,98],Go.Ev.bs #[97,61,99]],[Go.Ev.bs #[65]],[Go.Ev.bs #[97],Go.Ev.bs #[97,45,120],Go.Ev.bs #[97,61,98]],[Go.Ev.bs #[49],Go.Ev.bs #[50],Go.Ev.bs #[51],Go.Ev.bs #[52],Go.Ev.bs #[53],Go.Ev.bs #[54],Go.Ev.bs #[55],Go.Ev.bs #[56],Go.Ev.bs #[57],Go.Ev.bs #[97],Go.Ev.bs #[98]]] (by decide) (x:=x) (by simp only[List.length_cons,List.length_nil];omega)
  simp only[List.map_cons,List.map_nil,sE] at v1
  have l1:((x:Nat):Int)<((6:Nat):Int):=by omega
  have st:(f.bts.map Bt.e).set k (aK ((f.bts.map Bt.e).getD k []) 2 [.l (v.map sE)])=(f.bts.set k {f.bts[k] with marks:=v}).map Bt.e:=rX hk' rfl
  simp only[g4,call3,aa,jI,jC,jD,C.I_i,jX,decide_true,jR,rows,List.length_cons,List.length_nil,Nat.zero_add,Nat.reduceAdd,jY,ao,l1,v1,ltL hk',st]
  exact ⟨{f with bts:=f.bts.set k {f.bts[k] with marks:=v}},p+1+1+1+1,rfl,DJ hz (b:= {f.bts[k] with marks:=v}) ⟨hbk.1,hbk.2.1,Nat.le_trans v2 (by decide),fun m hm=>Nat.le_trans (v3 m hm) (by decide)⟩ k,by omega,by omega⟩
 ·simp only[show ((((3:Nat):Int))==0)=false from rfl,show ((((3:Nat):Int))==1)=false from rfl,show ((((3:Nat):Int))==2)=false from rfl,show ((((3:Nat):Int))==3)=true from rfl,jR,jS]
  obtain ⟨x,hx,g4⟩:=bI hb hl (p:=p+1+1+1) (n:=4) (by omega) (by omega) (by omega) (by omega)
  obtain ⟨v,v1⟩:=EW [-1,0,1000,1001] (x:=x) (by simp only[List.length_cons,List.length_nil];omega)
  simp only[List.map_cons,List.map_nil] at v1
  have l1:((x:Nat):Int)<((4:Nat):Int):=by omega
  have st:(f.bts.map Bt.e).set k (aK ((f.bts.map Bt.e).getD k []) 3 [.i v])=(f.bts.set k {f.bts[k] with room:=v}).map Bt.e:=rX hk' rfl
  simp only[g4,call3,aa,jI,jC,jD,C.I_i,jX,decide_true,jR,rows,List.length_cons,List.length_nil,Nat.zero_add,Nat.reduceAdd,jY,ao,l1,v1,ltL hk',st]
  exact ⟨{f with bts:=f.bts.set k {f.bts[k] with room:=v}},p+1+1+1+1,rfl,DJ hz (b:= {f.bts[k] with room:=v}) hbk k,by omega,by omega⟩
 ·simp only[show ((((4:Nat):Int))==0)=false from rfl,show ((((4:Nat):Int))==1)=false from rfl,show ((((4:Nat):Int))==2)=false from rfl,show ((((4:Nat):Int))==3)=false from rfl,show ((((4:Nat):Int))==4)=true from rfl,jR,jS]
  have c1:f.bts.length+1≤4294967296:=by omega
  have hr:[((f.bts.map Bt.e).getD k []).getD 0 .nil,((f.bts.map Bt.e).getD k []).getD 1 .nil,((f.bts.map Bt.e).getD k []).getD 2 .nil,((f.bts.map Bt.e).getD k []).getD 3 .nil,((f.bts.map Bt.e).getD k []).getD 4 .nil,((f.bts.map Bt.e).getD k []).getD 5 .nil]=f.bts[k].e:=by rw[getD_map' Bt.e hk'];rfl
  simp only[call3,aa,jI,jC,jD,C.I_i,jX,decide_true,jR,rows,List.length_cons,List.length_nil,Nat.zero_add,Nat.reduceAdd,jY,ao,ltL hk',c1,hr]
  refine ⟨{f with bts:=f.bts++[f.bts[k]]},p+1+1+1,by simp only[spN,List.map_append,List.map_cons,List.map_nil],⟨⟨by show (f.bts++[f.bts[k]]).length≤_;rw[List.length_append];simp only[List.length_cons,List.length_nil];omega,fun x hx=>?_⟩,hz.up.2⟩,by omega,by omega⟩
  rcases List.mem_append.1 hx with hx|hx
  ·exact hz.up.1.2 x hx
  ·rw[List.mem_singleton.1 hx];exact hbk
 ·simp only[show ((((5:Nat):Int))==0)=false from rfl,show ((((5:Nat):Int))==1)=false from rfl,show ((((5:Nat):Int))==2)=false from rfl,show ((((5:Nat):Int))==3)=false from rfl,show ((((5:Nat):Int))==4)=false from rfl,show ((((5:Nat):Int))==5)=true from rfl,jR,jS]
  obtain ⟨a,ha,g4⟩:=bI hb hl (p:=p+1+1+1) (n:=4) (by omega) (by omega) (by omega) (by omega)
  have ha':a<f.svs.length:=by omega
  have hsa:f.svs[a].name.size≤1048576:=hz.up.2.1.2 _ (List.getElem_mem ha')
  obtain ⟨x,hx,g5⟩:=bI hb hl (p:=p+1+1+1+1) (n:=3) (by omega) (by omega) (by omega) (by omega)
  obtain ⟨v,v1⟩:=EW [-1,60,61] (x:=x) (by simp only[List.length_cons,List.length_nil];omega)
  simp only[List.map_cons,List.map_nil] at v1
  have l1:((x:Nat):Int)<((3:Nat):Int):=by omega
  have st:(f.svs.map Sv.e).set a (aK ((f.svs.map Sv.e).getD a []) 1 [.i v])=(f.svs.set a {f.svs[a] with spare:=v}).map Sv.e:=rX ha' rfl
  simp only[g4,g5,call3,aa,jI,jC,jD,C.I_i,jX,decide_true,jR,rows,List.length_cons,List.length_nil,Nat.zero_add,Nat.reduceAdd,jY,ao,l1,v1,ltL ha',st]
  exact ⟨{f with svs:=f.svs.set a {f.svs[a] with spare:=v}},p+1+1+1+1+1,rfl,Jb hz (b:= {f.svs[a] with spare:=v}) hsa a,by omega,by omega⟩
 ·simp only[show ((((6:Nat):Int))==0)=false from rfl,show ((((6:Nat):Int))==1)=false from rfl,show ((((6:Nat):Int))==2)=false from rfl,show ((((6:Nat):Int))==3)=false from rfl,show ((((6:Nat):Int))==4)=false from rfl,show ((((6:Nat):Int))==5)=false from rfl,show ((((6:Nat):Int))==6)=true from rfl,jR,jS]
  obtain ⟨x,hx,g4⟩:=bI hb hl (p:=p+1+1+1) (n:=3) (by omega) (by omega) (by omega) (by omega)
  obtain ⟨v,v1⟩:=EW [-1,100,101] (x:=x) (by simp only[List.length_cons,List.length_nil];omega)
  simp only[List.map_cons,List.map_nil] at v1
  have l1:((x:Nat):Int)<((3:Nat):Int):=by omega
  have st:(f.cps.map Cp.e).set n (aK ((f.cps.map Cp.e).getD n []) 2 [.i v])=(f.cps.set n {f.cps[n] with rank:=v}).map Cp.e:=rX hn' rfl
  simp only[g4,call3,aa,jI,jC,jD,C.I_i,jX,decide_true,jR,rows,List.length_cons,List.length_nil,Nat.zero_add,Nat.reduceAdd,jY,ao,l1,v1,ltL hn',st]
  exact ⟨{f with cps:=f.cps.set n {f.cps[n] with rank:=v}},p+1+1+1+1,rfl,uB hz (b:= {f.cps[n] with rank:=v}) hcn n,by omega,by omega⟩
 ·simp only[show ((((7:Nat):Int))==0)=false from rfl,show ((((7:Nat):Int))==1)=false from rfl,show ((((7:Nat):Int))==2)=false from rfl,show ((((7:Nat):Int))==3)=false from rfl,show ((((7:Nat):Int))==4)=false from rfl,show ((((7:Nat):Int))==5)=false from rfl,show ((((7:Nat):Int))==6)=false from rfl,show ((((7:Nat):Int))==7)=true from rfl,jR,jS]
  obtain ⟨x,hx,g4⟩:=bI hb hl (p:=p+1+1+1) (n:=3) (by omega) (by omega) (by omega) (by omega)
  obtain ⟨v,v1⟩:=EW [-1,1000000,1000001] (x:=x) (by simp only[List.length_cons,List.length_nil];omega)
  simp only[List.map_cons,List.map_nil] at v1
  have l1:((x:Nat):Int)<((3:Nat):Int):=by omega
  have st:(f.cps.map Cp.e).set n (aK ((f.cps.map Cp.e).getD n []) 3 [.i v])=(f.cps.set n {f.cps[n] with born:=v}).map Cp.e:=rX hn' rfl
  simp only[g4,call3,aa,jI,jC,jD,C.I_i,jX,decide_true,jR,rows,List.length_cons,List.length_nil,Nat.zero_add,Nat.reduceAdd,jY,ao,l1,v1,ltL hn',st]
  exact ⟨{f with cps:=f.cps.set n {f.cps[n] with born:=v}},p+1+1+1+1,rfl,uB hz (b:= {f.cps[n] with born:=v}) hcn n,by omega,by omega⟩
 ·simp only[show ((((8:Nat):Int))==0)=false from rfl,show ((((8:Nat):Int))==1)=false from rfl,show ((((8:Nat):Int))==2)=false from rfl,show ((((8:Nat):Int))==3)=false from rfl,show ((((8:Nat):Int))==4)=false from rfl,show ((((8:Nat):Int))==5)=false from rfl,show ((((8:Nat):Int))==6)=false from rfl,show ((((8:Nat):Int))==7)=false from rfl,show ((((8:Nat):Int))==8)=true from rfl,jR,jS]
  obtain ⟨x,hx,g4⟩:=bI hb hl (p:=p+1+1+1) (n:=3) (by omega) (by omega) (by omega) (by omega)
  obtain ⟨v,v1⟩:=EW [-1,1000,1001] (x:=x) (by simp only[List.length_cons,List.length_nil];omega)
  simp only[List.map_cons,List.map_nil] at v1
  have l1:((x:Nat):Int)<((3:Nat):Int):=by omega
  have st:(f.cps.map Cp.e).set n (aK ((f.cps.map Cp.e).getD n []) 4 [.i v])=(f.cps.set n {f.cps[n] with room:=v}).map Cp.e:=rX hn' rfl
  simp only[g4,call3,aa,jI,jC,jD,C.I_i,jX,decide_true,jR,rows,List.length_cons,List.length_nil,Nat.zero_add,Nat.reduceAdd,jY,ao,l1,v1,ltL hn',st]
  exact ⟨{f with cps:=f.cps.set n {f.cps[n] with room:=v}},p+1+1+1+1,rfl,uB hz (b:= {f.cps[n] with room:=v}) hcn n,by omega,by omega⟩
 ·simp only[show ((((9:Nat):Int))==0)=false from rfl,show ((((9:Nat):Int))==1)=false from rfl,show ((((9:Nat):Int))==2)=false from rfl,show ((((9:Nat):Int))==3)=false from rfl,show ((((9:Nat):Int))==4)=false from rfl,show ((((9:Nat):Int))==5)=false from rfl,show ((((9:Nat):Int))==6)=false from rfl,show ((((9:Nat):Int))==7)=false from rfl,show ((((9:Nat):Int))==8)=false from rfl,show ((((9:Nat):Int))==9)=true from rfl,jR,jS]
  obtain ⟨w,gm,hw⟩:=Dp (Go.Ev.bs #[97]) 201 (by omega) rfl
  have gm':eI [.s (Go.Ev.bs #[97]),.i 201]=some [.s w]:=gm
  obtain ⟨x,hx,g4⟩:=bI hb hl (p:=p+1+1+1) (n:=4) (by omega) (by omega) (by omega) (by omega)
  obtain ⟨v,v1,v2⟩:=CA [Go.Ev.bs #[97,32,98],Go.Ev.bs #[33],w,Go.Ev.bs #[120]] (by intro s hs;simp only[List.mem_cons,List.not_mem_nil,or_false] at hs;rcases hs with rfl|rfl|rfl|rfl<;>first|assumption|decide) (x:=x) (by simp only[List.length_cons,List.length_nil];omega)
  simp only[List.map_cons,List.map_nil,sE] at v1
  have l1:((x:Nat):Int)<((4:Nat):Int):=by omega
  have st:(f.cps.map Cp.e).set n (aK ((f.cps.map Cp.e).getD n []) 6 [.s v])=(f.cps.set n {f.cps[n] with sel:=v}).map Cp.e:=rX hn' rfl
  simp only[g4,gm',call3,aa,jI,jC,jD,C.I_i,jX,decide_true,jR,rows,List.length_cons,List.length_nil,Nat.zero_add,Nat.reduceAdd,jY,ao,l1,v1,ltL hn',st]
  exact ⟨{f with cps:=f.cps.set n {f.cps[n] with sel:=v}},p+1+1+1+1,rfl,uB hz (b:= {f.cps[n] with sel:=v}) ⟨hcn.1,hcn.2.1,Nat.le_trans v2 (by decide),hcn.2.2.2.1,hcn.2.2.2.2.1,hcn.2.2.2.2.2.1,hcn.2.2.2.2.2.2⟩ n,by omega,by omega⟩
 ·simp only[show ((((10:Nat):Int))==0)=false from rfl,show ((((10:Nat):Int))==1)=false from rfl,show ((((10:Nat):Int))==2)=false from rfl,show ((((10:Nat):Int))==3)=false from rfl,show ((((10:Nat):Int))==4)=false from rfl,show ((((10:Nat):Int))==5)=false from rfl,show ((((10:Nat):Int))==6)=false from rfl,show ((((10:Nat):Int))==7)=false from rfl,show ((((10:Nat):Int))==8)=false from rfl,show ((((10:Nat):Int))==9)=false from rfl,show ((((10:Nat):Int))==10)=true from rfl,jR,jS]
  obtain ⟨x,hx,g4⟩:=bI hb hl (p:=p+1+1+1) (n:=2) (by omega) (by omega) (by omega) (by omega)
  have w5:w64 (5+(x:Int))=((5+x:Nat):Int):=by rw[aP (by omega) (by omega)];omega
  obtain ⟨l',p',q1,q2,q3,q4,q5⟩:=Ja hb hl f.pack (f.bts.map Bt.e) (f.svs.map Sv.e) n (5+x) (by omega) 20 f.cps (p+1+1+1+1) hn' (by omega) (by omega) hz.up.2.2.2 (by omega) (by omega)
  simp only[g4,call3,aa,jI,jC,jD,C.I_i,jX,decide_true,jR,rows,List.length_cons,List.length_nil,Nat.zero_add,Nat.reduceAdd,jY,ao,w5,q1,aA,bJ.d2,apL,C.L_l]
  exact ⟨{f with cps:=l'},p',rfl,⟨hz.up.1,hz.up.2.1,by show l'.length≤_;omega,q3⟩,by omega,by omega⟩
 ·simp only[show ((((11:Nat):Int))==0)=false from rfl,show ((((11:Nat):Int))==1)=false from rfl,show ((((11:Nat):Int))==2)=false from rfl,show ((((11:Nat):Int))==3)=false from rfl,show ((((11:Nat):Int))==4)=false from rfl,show ((((11:Nat):Int))==5)=false from rfl,show ((((11:Nat):Int))==6)=false from rfl,show ((((11:Nat):Int))==7)=false from rfl,show ((((11:Nat):Int))==8)=false from rfl,show ((((11:Nat):Int))==9)=false from rfl,show ((((11:Nat):Int))==10)=false from rfl,show ((((11:Nat):Int))==11)=true from rfl,jR,jS]
  obtain ⟨x,hx,g4⟩:=bI hb hl (p:=p+1+1+1) (n:=2) (by omega) (by omega) (by omega) (by omega)
  obtain ⟨v,v1⟩:=EW [-1,3] (x:=x) (by simp only[List.length_cons,List.length_nil];omega)
  simp only[List.map_cons,List.map_nil] at v1
  have l1:((x:Nat):Int)<((2:Nat):Int):=by omega
  have st:(f.cps.map Cp.e).set n (aK ((f.cps.map Cp.e).getD n []) 8 [.i v])=(f.cps.set n {f.cps[n] with apart:=v}).map Cp.e:=rX hn' rfl
  simp only[g4,call3,aa,jI,jC,jD,C.I_i,jX,decide_true,jR,rows,List.length_cons,List.length_nil,Nat.zero_add,Nat.reduceAdd,jY,ao,l1,v1,ltL hn',st]
  exact ⟨{f with cps:=f.cps.set n {f.cps[n] with apart:=v}},p+1+1+1+1,rfl,uB hz (b:= {f.cps[n] with apart:=v}) hcn n,by omega,by omega⟩
 ·simp only[show ((((12:Nat):Int))==0)=false from rfl,show ((((12:Nat):Int))==1)=false from rfl,show ((((12:Nat):Int))==2)=false from rfl,show ((((12:Nat):Int))==3)=false from rfl,show ((((12:Nat):Int))==4)=false from rfl,show ((((12:Nat):Int))==5)=false from rfl,show ((((12:Nat):Int))==6)=false from rfl,show ((((12:Nat):Int))==7)=false from rfl,show ((((12:Nat):Int))==8)=false from rfl,show ((((12:Nat):Int))==9)=false from rfl,show ((((12:Nat):Int))==10)=false from rfl,show ((((12:Nat):Int))==11)=false from rfl,show ((((12:Nat):Int))==12)=true from rfl,jR,jS]
  obtain ⟨x,hx,g4⟩:=bI hb hl (p:=p+1+1+1) (n:=3) (by omega) (by omega) (by omega) (by omega)
  obtain ⟨v,v1,v2⟩:=CA [Go.Ev.bs #[103,111,110,101],Go.Ev.bs #[98,48],Go.Ev.bs #[98,49]] (by intro s hs;simp only[List.mem_cons,List.not_mem_nil,or_false] at hs;rcases hs with rfl|rfl|rfl<;>first|assumption|decide) (x:=x) (by simp only[List.length_cons,List.length_nil];omega)
  simp only[List.map_cons,List.map_nil,sE] at v1
  have l1:((x:Nat):Int)<((3:Nat):Int):=by omega
  have st:(f.cps.map Cp.e).set n (aK ((f.cps.map Cp.e).getD n []) 11 [.s v])=(f.cps.set n {f.cps[n] with at_:=v}).map Cp.e:=rX hn' rfl
  simp only[g4,call3,aa,jI,jC,jD,C.I_i,jX,decide_true,jR,rows,List.length_cons,List.length_nil,Nat.zero_add,Nat.reduceAdd,jY,ao,l1,v1,ltL hn',st]
  exact ⟨{f with cps:=f.cps.set n {f.cps[n] with at_:=v}},p+1+1+1+1,rfl,uB hz (b:= {f.cps[n] with at_:=v}) ⟨hcn.1,hcn.2.1,hcn.2.2.1,hcn.2.2.2.1,hcn.2.2.2.2.1,Nat.le_trans v2 (by decide),hcn.2.2.2.2.2.2⟩ n,by omega,by omega⟩
 ·simp only[show ((((13:Nat):Int))==0)=false from rfl,show ((((13:Nat):Int))==1)=false from rfl,show ((((13:Nat):Int))==2)=false from rfl,show ((((13:Nat):Int))==3)=false from rfl,show ((((13:Nat):Int))==4)=false from rfl,show ((((13:Nat):Int))==5)=false from rfl,show ((((13:Nat):Int))==6)=false from rfl,show ((((13:Nat):Int))==7)=false from rfl,show ((((13:Nat):Int))==8)=false from rfl,show ((((13:Nat):Int))==9)=false from rfl,show ((((13:Nat):Int))==10)=false from rfl,show ((((13:Nat):Int))==11)=false from rfl,show ((((13:Nat):Int))==12)=false from rfl,show ((((13:Nat):Int))==13)=true from rfl,jR,jS]
  obtain ⟨x,hx,g4⟩:=bI hb hl (p:=p+1+1+1) (n:=2) (by omega) (by omega) (by omega) (by omega)
  obtain ⟨v,v1,v2⟩:=CA [Go.Ev.bs #[110,111,110,101],Go.Ev.bs #[]] (by intro s hs;simp only[List.mem_cons,List.not_mem_nil,or_false] at hs;rcases hs with rfl|rfl<;>first|assumption|decide) (x:=x) (by simp only[List.length_cons,List.length_nil];omega)
  simp only[List.map_cons,List.map_nil,sE] at v1
  have l1:((x:Nat):Int)<((2:Nat):Int):=by omega
  have st:(f.cps.map Cp.e).set n (aK ((f.cps.map Cp.e).getD n []) 1 [.s v])=(f.cps.set n {f.cps[n] with svc:=v}).map Cp.e:=rX hn' rfl
  simp only[g4,call3,aa,jI,jC,jD,C.I_i,jX,decide_true,jR,rows,List.length_cons,List.length_nil,Nat.zero_add,Nat.reduceAdd,jY,ao,l1,v1,ltL hn',st]
  exact ⟨{f with cps:=f.cps.set n {f.cps[n] with svc:=v}},p+1+1+1+1,rfl,uB hz (b:= {f.cps[n] with svc:=v}) ⟨hcn.1,Nat.le_trans v2 (by decide),hcn.2.2.1,hcn.2.2.2.1,hcn.2.2.2.2.1,hcn.2.2.2.2.2.1,hcn.2.2.2.2.2.2⟩ n,by omega,by omega⟩
 ·simp only[show ((((14:Nat):Int))==0)=false from rfl,show ((((14:Nat):Int))==1)=false from rfl,show ((((14:Nat):Int))==2)=false from rfl,show ((((14:Nat):Int))==3)=false from rfl,show ((((14:Nat):Int))==4)=false from rfl,show ((((14:Nat):Int))==5)=false from rfl,show ((((14:Nat):Int))==6)=false from rfl,show ((((14:Nat):Int))==7)=false from rfl,show ((((14:Nat):Int))==8)=false from rfl,show ((((14:Nat):Int))==9)=false from rfl,show ((((14:Nat):Int))==10)=false from rfl,show ((((14:Nat):Int))==11)=false from rfl,show ((((14:Nat):Int))==12)=false from rfl,show ((((14:Nat):Int))==13)=false from rfl,show ((((14:Nat):Int))==14)=true from rfl,jR,jS]
  obtain ⟨x,hx,g4⟩:=bI hb hl (p:=p+1+1+1) (n:=2) (by omega) (by omega) (by omega) (by omega)
  have w5:w64 (10+(x:Int))=((10+x:Nat):Int):=by rw[aP (by omega) (by omega)];omega
  obtain ⟨l',q1,q2,q3⟩:=Jy (bs:=bs) f.pack f.bts (f.svs.map Sv.e) hk' hbk0.1 (p+1+1+1+1) (10+x) (by omega) (10+x) [] (by simp) (fun c hc=>by simp at hc)
  simp only[List.map_nil,List.length_nil,Int.natCast_zero] at q1
  simp only[g4,call3,aa,jI,jC,jD,C.I_i,jX,decide_true,jR,rows,List.length_cons,List.length_nil,Nat.zero_add,Nat.reduceAdd,jY,ao,w5,q1,aA,bJ.d2,apL,C.L_l]
  exact ⟨{f with cps:=l'},_,rfl,⟨hz.up.1,hz.up.2.1,by show l'.length≤_;omega,q3⟩,by omega,by omega⟩
 ·simp only[show ((((15:Nat):Int))==0)=false from rfl,show ((((15:Nat):Int))==1)=false from rfl,show ((((15:Nat):Int))==2)=false from rfl,show ((((15:Nat):Int))==3)=false from rfl,show ((((15:Nat):Int))==4)=false from rfl,show ((((15:Nat):Int))==5)=false from rfl,show ((((15:Nat):Int))==6)=false from rfl,show ((((15:Nat):Int))==7)=false from rfl,show ((((15:Nat):Int))==8)=false from rfl,show ((((15:Nat):Int))==9)=false from rfl,show ((((15:Nat):Int))==10)=false from rfl,show ((((15:Nat):Int))==11)=false from rfl,show ((((15:Nat):Int))==12)=false from rfl,show ((((15:Nat):Int))==13)=false from rfl,show ((((15:Nat):Int))==14)=false from rfl,jR,jS]
  obtain ⟨x,hx,g4⟩:=bI hb hl (p:=p+1+1+1) (n:=2) (by omega) (by omega) (by omega) (by omega)
  obtain ⟨v,v1,v2⟩:=CA [Go.Ev.bs #[65],Go.Ev.bs #[119,101,98]] (by intro s hs;simp only[List.mem_cons,List.not_mem_nil,or_false] at hs;rcases hs with rfl|rfl<;>first|assumption|decide) (x:=x) (by simp only[List.length_cons,List.length_nil];omega)
  simp only[List.map_cons,List.map_nil,sE] at v1
  have l1:((x:Nat):Int)<((2:Nat):Int):=by omega
  obtain ⟨y,hy,g5⟩:=bI hb hl (p:=p+1+1+1+1) (n:=2) (by omega) (by omega) (by omega) (by omega)
  obtain ⟨u,u1,u2⟩:=CA [Go.Ev.bs #[120,32,121],Go.Ev.bs #[98,48]] (by intro s hs;simp only[List.mem_cons,List.not_mem_nil,or_false] at hs;rcases hs with rfl|rfl<;>first|assumption|decide) (x:=y) (by simp only[List.length_cons,List.length_nil];omega)
  simp only[List.map_cons,List.map_nil,sE] at u1
  have l2:((y:Nat):Int)<((2:Nat):Int):=by omega
  have st:(f.cps.map Cp.e).set n (aK ((f.cps.map Cp.e).getD n []) 9 [.s v])=(f.cps.set n {f.cps[n] with near:=v}).map Cp.e:=rX hn' rfl
  have hn2:n<(f.cps.set n {f.cps[n] with near:=v}).length:=by rw[List.length_set];exact hn'
  have st2:((f.cps.set n {f.cps[n] with near:=v}).map Cp.e).set n (aK (((f.cps.set n {f.cps[n] with near:=v}).map Cp.e).getD n []) 10 [.s u])=(f.cps.set n {f.cps[n] with near:=v,fixed:=u}).map Cp.e:=by
   rw[rX (b:= {f.cps[n] with near:=v,fixed:=u}) hn2 (by rw[List.getElem_set_self];rfl),List.set_set]
  simp only[g4,g5,call3,aa,jI,jC,jD,C.I_i,jX,decide_true,jR,rows,List.length_cons,List.length_nil,Nat.zero_add,Nat.reduceAdd,jY,ao,l1,l2,v1,u1,ltL hn',st,jW,List.length_set,st2]
  exact ⟨{f with cps:=f.cps.set n {f.cps[n] with near:=v,fixed:=u}},p+1+1+1+1+1,rfl,uB hz (b:= {f.cps[n] with near:=v,fixed:=u}) ⟨hcn.1,hcn.2.1,hcn.2.2.1,Nat.le_trans v2 (by decide),Nat.le_trans u2 (by decide),hcn.2.2.2.2.2.1,hcn.2.2.2.2.2.2⟩ n,by omega,by omega⟩
end
end Go.Ev
namespace Go.Ev
section
variable {bs:List (List C)} (hb:BY bs) (hl:bs.length≤2000)
include hb hl
theorem Fj {p:Int} (h0:0≤p) (h1:p≤1125899906842624-100000):
  ∃(f:Fl) (p':Int),nR [.l bs,.i p]=some (f.e++[.l bs,.i p'])∧f.Sz 1048576∧p≤p'∧p'≤p+50000:=by
 obtain ⟨k,hk,g1⟩:=bI hb hl h0 (show p≤1125899906842624 by omega) (n:=12) (by omega) (by omega)
 simp only[nR,nR.d1,apL,jC,jD,g1,call3,jI,C.I_i]
 cases hq:((k:Int)==0) with
 |true=>
  obtain ⟨f,p',q1,q2,q3,q4⟩:=HQ hb hl (p:=p+1) (by omega) (by omega)
  refine ⟨f,p',?_,q2.up,by omega,by omega⟩
  simp only[jR,q1,call6,jI,jC,jD,C.L_l,jV]
  rfl
 |false=>
  obtain ⟨f,p1,q1,q2,q3,q4,q5⟩:=GR hb hl (p:=p+1) (by omega) (by omega)
  obtain ⟨m,hm,g2⟩:=bI hb hl (p:=p1) (n:=16) (by omega) (by omega) (by omega) (by omega)
  have q1':aH [.l bs,.i (p+1)]=some [.b f.pack,.l (f.bts.map Bt.e),.l (f.svs.map Sv.e),.l (f.cps.map Cp.e),.l bs,.i p1]:=q1
  simp only[jS,q1',call6,jI,jC,jD,C.L_l,g2,call3,C.I_i]
  cases hm0:((m:Int)==0) with
  |true=>
   obtain ⟨g,p2,r1,r2,r3,r4⟩:=FO hb hl q2 q3.1 q3.2 (p:=p1+1) (by omega) (by omega)
   have r1':bJ [.b f.pack,.l (f.bts.map Bt.e),.l (f.svs.map Sv.e),.l (f.cps.map Cp.e),.l bs,.i (p1+1)]=some (spR bs g p2):=r1
   refine ⟨g,p2,?_,r2,by omega,by omega⟩
   simp only[jR,r1',spR,call6,jI,jC,jD,C.L_l,jV]
   rfl
  |false=>
   refine ⟨f,p1+1,?_,q2.up,by omega,by omega⟩
   simp only[jS,jV]
   rfl
end
theorem HR {A:List (List C)} (hA:BY A):∃bs:List (List C),lS [.l A]=some [.l bs,.i 0]∧BY bs∧bs.length≤2000:=by
 simp only[lS,lS.d1,apL,jC,C.L_l]
 by_cases h:(A.length:Int)>2000
 ·have h2:(2000:Int)≤(A.length:Int):=by omega
  refine ⟨(A.take 2000).drop 0,?_,?_,?_⟩
  ·simp only[h,h2,decide_true,jR,jV]
  ·exact fun r hr=>hA r (List.mem_of_mem_take (List.mem_of_mem_drop hr))
  ·rw[List.drop_zero,List.length_take];omega
 ·refine ⟨A,?_,hA,by omega⟩
  simp only[h,decide_false,jS,jV]
end Go.Ev
set_option maxHeartbeats 1000000
namespace Go.Ev
theorem Hs {f:Fl} (cn:Str) (hlc:f.cps.length≤1048576) (Z:List C) (hZ:Z=[.s (bs #[]),.s (bs #[]),.i 0,.i 0,.i 0,.i 0,.s (bs #[]),.i 0,.s (bs #[]),.s (bs #[]),.s (bs #[]),.l []]):∀d i,i+d=f.cps.length→
  (eB (fun x:Cp=>sEq x.name cn) (f.cps.drop i) i<0∧lim (CM ed.d1) ([.s cn,.i (i:Nat)]++f.e++Z)=some (.brk 0 Z))∨
  ∃k,∃hk:k<f.cps.length,eB (fun x:Cp=>sEq x.name cn) (f.cps.drop i) i=(k:Nat)∧lim (CM ed.d1) ([.s cn,.i (i:Nat)]++f.e++Z)=some (.ret (f.cps[k].e++[.b true])):=by
 intro d
 subst hZ
 induction d with
 |zero=>
  intro i hi
  left
  have e:f.cps.drop i=[]:=List.drop_eq_nil_of_le (by omega)
  refine ⟨by rw[e];simp[eB],aQ ?_⟩
  have:¬((i:Int)<(f.cps.length:Int)):=by omega
  simp only[Fl.e,jA,jB,apL,jC,jD,ed.d1,C.I_i,C.L_l,jW,this,decide_false,jS]
 |succ d ih=>
  intro i hi
  have hlt:i<f.cps.length:=by omega
  have hd:f.cps.drop i=f.cps[i]::f.cps.drop (i+1):=List.drop_eq_getElem_cons hlt
  have stp:CM ed.d1 ([.s cn,.i (i:Nat)]++f.e++[.s (bs #[]),.s (bs #[]),.i 0,.i 0,.i 0,.i 0,.s (bs #[]),.i 0,.s (bs #[]),.s (bs #[]),.s (bs #[]),.l []])=bif sEq f.cps[i].name cn then some (.ret (f.cps[i].e++[.b true])) else some (.again ([.s cn,.i (i+1:Nat)]++f.e++[.s (bs #[]),.s (bs #[]),.i 0,.i 0,.i 0,.i 0,.s (bs #[]),.i 0,.s (bs #[]),.s (bs #[]),.s (bs #[]),.l []])):=by
   have hl2:f.cps.length<big:=by simp only[big];omega
   simp only[Fl.e,jA,jB,apL,jC,jD,ed.d1,C.I_i,C.L_l,C.S_s,jW,ltL hlt,jX,decide_true,jR,jY,w1 hlt hl2]
   rw[getD_map' Cp.e hlt]
   simp only[Cp.e,jC,jD,C.S_s,sEq,jA,jB]
  rw[hd]
  cases hq:sEq f.cps[i].name cn with
  |true=>
   right
   refine ⟨i,hlt,by simp[eB,hq],mj ?_⟩
   rw[stp,hq];rfl
  |false=>
   have e:eB (fun x:Cp=>sEq x.name cn) (f.cps[i]::f.cps.drop (i+1)) i=eB (fun x:Cp=>sEq x.name cn) (f.cps.drop (i+1)) (i+1):=by simp[eB,hq]
   rw[e,aG (by rw[stp,hq];rfl)]
   exact ih (i+1) (by omega)
theorem Ez {f:Fl} (cn:Str) (hlc:f.cps.length≤1048576):∃(c:Cp) (ok:Bool),ed (f.e++[.s cn])=some (c.e++[.b ok])∧((ok=false∧cIx f cn<0)∨(ok=true∧∃k,∃hk:k<f.cps.length,cIx f cn=(k:Nat)∧c=f.cps[k])):=by
 have:=Hs (f:=f) cn hlc _ rfl f.cps.length 0 (by omega)
 rw[List.drop_zero] at this
 simp only[Fl.e,jA,jB,Int.natCast_zero] at this
 rcases this with ⟨h1,h2⟩|⟨k,hk,h1,h2⟩
 ·refine ⟨⟨bs #[],bs #[],0,0,0,0,bs #[],[],0,bs #[],bs #[],bs #[]⟩,false,?_,.inl ⟨rfl,h1⟩⟩
  simp only[ed,ed.d3,Fl.e,jA,jB,apL,jC,jD,ao,h2,aA,ed.d2,jV]
  rfl
 ·refine ⟨f.cps[k],true,?_,.inr ⟨rfl,k,hk,h1,rfl⟩⟩
  simp only[ed,ed.d3,Fl.e,jA,jB,apL,jC,jD,ao,h2,uS,jV]
theorem Et {f:Fl} (hv:bL f=true) {cn:Str} {k:Nat} (hk:k<f.cps.length) (he:cIx f cn=(k:Nat)) {i:Nat} (hi:i<f.bts.length):rM f cn f.bts[i].name=cA f f.cps[k] f.bts[i] false:=by
 obtain ⟨j,hj,e1,e2⟩:=ky hv (List.getElem_mem hi)
 have n1:¬((k:Int)<0∨(j:Int)<0):=by omega
 simp only[rM,hv,jR,he,e1,jY,List.getElem?_eq_getElem hk,List.getElem?_eq_getElem hj,e2,n1,if_false]
end Go.Ev
namespace Go.Ev
theorem yt (f:Fl) (c:Cp) (b:Bt):cA f c b false=bif b.shut then 1 else cA f c b true:=by
 unfold cA
 cases b.shut<;>rfl
theorem AU {p q:Cp→Bool} {g:Cp→Int} {l m:List Cp} (hl:l.length=m.length) (h:∀i (h1:i<l.length) (h2:i<m.length),(bif p l[i] then g l[i] else 0)=(bif q m[i] then g m[i] else 0)):jd p g l=jd q g m:=by
 have h1:=Ab (p:=p) (q:=q) (g:=g) hl fun i a b=>Int.le_of_eq (h i a b)
 have h2:=Ab (p:=q) (q:=p) (g:=g) hl.symm fun i a b=>Int.le_of_eq (h i b a).symm
 omega
theorem jg (c:Cp):oth c c=false:=by unfold oth;rw[(cx _ _).2 rfl];rfl
section
variable {f:Fl} (h:VF f) {i:Nat} (hi:i<f.cps.length) (b:Bt)
include h hi
theorem iM {nm:Str} {k:Nat} (h1:k<(setAt f i f.cps[i] nm).cps.length) (h2:k<f.cps.length):(setAt f i f.cps[i] nm).cps[k]=if i=k then {f.cps[i] with at_:=nm} else f.cps[k]:=by
 simp only[setAt,List.getElem_set]
theorem xW {k:Nat} (hk:k<f.cps.length) (hne:i≠k):sEq f.cps[k].name f.cps[i].name=false:=by
 cases q:sEq f.cps[k].name f.cps[i].name with
 |false=>rfl
 |true=>
  exfalso
  have hu:=mA (ir h)
  have hlt:∀a b (ha:a<f.cps.length) (hb:b<f.cps.length),a<b→f.cps[a].name≠f.cps[b].name:=fun a b ha hb hab he=>by
   have:∀n,∀(hb:a+1+n<f.cps.length),sLt f.cps[a].name f.cps[a+1+n].name=true:=fun n=>by
    induction n with
    |zero=>intro hb;exact (h.cp (a+1) hb).2.2.1 (by omega)
    |succ n ih=>
     intro hb
     exact tp (ih (by omega)) ((h.cp (a+1+(n+1)) hb).2.2.1 (by omega))
   have h1:=this (b-a-1) (by omega)
   have e:a+1+(b-a-1)=b:=by omega
   simp only[e] at h1
   rw[he,zJ] at h1;cases h1
  have he:=(cx _ _).1 q
  rcases Nat.lt_or_gt_of_ne hne with h1|h1
  ·exact hlt i k hi hk h1 he.symm
  ·exact hlt k i hk hi h1 he
theorem zA (nm:Str) {p q:Cp→Bool} (h0:p f.cps[i]=false) (h1:q {f.cps[i] with at_:=nm}=false) (ho:∀k (hk:k<f.cps.length),i≠k→p f.cps[k]=q f.cps[k]):(setAt f i f.cps[i] nm).cps.any q=f.cps.any p:=by
 have hl:(setAt f i f.cps[i] nm).cps.length=f.cps.length:=by simp[setAt]
 rw[Bool.eq_iff_iff,List.any_eq_true,List.any_eq_true]
 constructor
 ·rintro ⟨x,hx,hq⟩
  obtain ⟨k,hk,rfl⟩:=List.getElem_of_mem hx
  have hk':k<f.cps.length:=by omega
  rw[iM h hi hk hk'] at hq
  split at hq
  ·rw[h1] at hq;cases hq
  ·rename_i hne
   exact ⟨_,List.getElem_mem hk',by rw[ho k hk' hne];exact hq⟩
 ·rintro ⟨x,hx,hp⟩
  obtain ⟨k,hk,rfl⟩:=List.getElem_of_mem hx
  by_cases hne:i=k
  ·subst hne;rw[h0] at hp;cases hp
  ·have hk':k<(setAt f i f.cps[i] nm).cps.length:=by omega
   refine ⟨_,List.getElem_mem hk',?_⟩
   rw[iM h hi hk' hk,if_neg hne,←ho k hk hne];exact hp
theorem DN (nm:Str) (w:Cp→Int):jd (onP {f.cps[i] with at_:=nm} b) w (setAt f i f.cps[i] nm).cps=jd (onP f.cps[i] b) w f.cps:=by
 refine AU (by simp[setAt]) fun k h1 h2=>?_
 rw[iM h hi h1 h2]
 split
 ·rename_i e
  subst e
  have e1:onP {f.cps[i] with at_:=nm} b {f.cps[i] with at_:=nm}=false:=by unfold onP;rw[jg];rfl
  have e2:onP f.cps[i] b f.cps[i]=false:=by unfold onP;rw[jg];rfl
  rw[e1,e2];rfl
 ·rfl
theorem ER (nm:Str) (o:Bool):cA (setAt f i f.cps[i] nm) {f.cps[i] with at_:=nm} b o=cA f f.cps[i] b o:=by
 have hz:∀s,dN (setAt f i f.cps[i] nm) s=dN f s:=fun _=>rfl
 have ho:∀x,oth {f.cps[i] with at_:=nm} x=oth f.cps[i] x:=fun _=>rfl
 have e1:(setAt f i f.cps[i] nm).cps.any (jr (setAt f i f.cps[i] nm) {f.cps[i] with at_:=nm} b)=f.cps.any (jr f f.cps[i] b):=
  zA h hi nm (by unfold jr;rw[jg];rfl) (by unfold jr;rw[jg];rfl) fun k hk _=>by unfold jr;rw[hz,ho]
 have e2:oX (setAt f i f.cps[i] nm) {f.cps[i] with at_:=nm} b=oX f f.cps[i] b:=by
  unfold oX
  have a1:(setAt f i f.cps[i] nm).cps.any (kf (setAt f i f.cps[i] nm) {f.cps[i] with at_:=nm} b)=f.cps.any (kf f f.cps[i] b):=
   zA h hi nm (by unfold kf;rw[jg];rfl) (by unfold kf;rw[jg];rfl) fun k hk _=>by unfold kf;rw[hz,ho]
  have a2:(setAt f i f.cps[i] nm).cps.any (oe {f.cps[i] with at_:=nm} f.cps[i].near)=f.cps.any (oe f.cps[i] f.cps[i].near):=
   zA h hi nm (by unfold oe;rw[jg];rfl) (by unfold oe;rw[jg];rfl) fun k hk _=>by unfold oe;rw[ho]
  simp only[a1,a2]
 have e3:fN (onP {f.cps[i] with at_:=nm} b) (setAt f i f.cps[i] nm).cps (setAt f i f.cps[i] nm).cps.length=fN (onP f.cps[i] b) f.cps f.cps.length:=by
  have:=DN h hi b nm (fun _=>1)
  rw[←nk,←nk] at this
  omega
 have e4:∀w:Cp→Int,cC (onP {f.cps[i] with at_:=nm} b) w (setAt f i f.cps[i] nm).cps (setAt f i f.cps[i] nm).cps.length=cC (onP f.cps[i] b) w f.cps f.cps.length:=fun w=>by
  rw[lW,lW];exact DN h hi b nm w
 unfold cA
 simp only[e1,e2,e3,e4]
end
end Go.Ev
namespace Go.Ev
section
variable {bs:List (List C)} (hb:BY bs) (hl:bs.length≤2000)
include hb hl
end
end Go.Ev
namespace Go.Ev
theorem xX (L:List Str) (hl:L.length≤1048576):ei [.l (L.map sE),.l (L.map sE)]=some [.b true]:=by
 have hb:L.length<big:=by simp only[big];omega
 have h:=bU (body:=ap3 ei.d1) (S:=fun i=>[.l (L.map sE),.l (L.map sE),.i (i:Nat)]) (n:=L.length) (b:=0) (ys:=[])
  (fun i hi=>by
   simp only[apL,jC,jD,ei.d1,C.I_i,C.L_l,jW,ltL hi,jX,decide_true,jR,jY,w1 hi hb]
   rw[getD_map' sE hi]
   simp only[sE,jC,C.S_s,beq_self_eq_true,jZ,jS])
  (by simp[ei.d1]) L.length 0 rfl
 have e:((L.length:Int) !=(L.length:Int))=false:=by simp
 simp only[Int.natCast_zero] at h
 simp only[ei,ei.d3,apL,jC,jD,C.L_l,jW,e,jS,h,aA,ei.d2,jV]
end Go.Ev
namespace Go.Ev
end Go.Ev
namespace Go.Ev
theorem nv (f:Fl) (c:Cp) (b:Bt):cA f c b true=0↔((!sEq c.fixed (mkS [])&&!sEq c.fixed b.name)=false∧pM c.sel b=true∧f.cps.any (jr f c b)=false∧oX f c b=false∧fN (onP c b) f.cps f.cps.length<10∧¬b.room<cC (onP c b) Cp.room f.cps f.cps.length+c.room∧¬b.hold<cC (onP c b) Cp.hold f.cps f.cps.length+c.hold):=by
 unfold cA
 rw[show (b.shut&&!true)=false by simp,jS]
 cases q2: !sEq c.fixed (mkS [])&&!sEq c.fixed b.name
 ·cases q3:pM c.sel b
  ·simp
  ·cases q4:f.cps.any (jr f c b)
   ·cases q5:oX f c b
    ·simp only[jZ,jS,true_and]
     cases q6:decide (10≤fN (onP c b) f.cps f.cps.length)
     ·have q6':=of_decide_eq_false q6
      cases q7:decide (b.room<cC (onP c b) Cp.room f.cps f.cps.length+c.room)
      ·have q7':=of_decide_eq_false q7
       cases q8:decide (b.hold<cC (onP c b) Cp.hold f.cps f.cps.length+c.hold)
       ·have q8':=of_decide_eq_false q8
        simp only[jS,true_iff]
        exact ⟨by omega,q7',q8'⟩
       ·have q8':=of_decide_eq_true q8
        simp only[jR,jS]
        constructor
        ·intro h;omega
        ·intro h;exact absurd q8' h.2.2
      ·have q7':=of_decide_eq_true q7
       simp only[jR,jS]
       constructor
       ·intro h;omega
       ·intro h;exact absurd q7' h.2.1
     ·have q6':=of_decide_eq_true q6
      simp only[jR]
      constructor
      ·intro h;omega
      ·intro h;omega
    ·simp
   ·simp
 ·simp
theorem D8 {f:Fl} (h:VF f) {j:Nat} (hj:j<f.cps.length) {b:Bt} (hb:b∈f.bts) (ha:sEq f.cps[j].at_ b.name=true) (w:Cp→Int):jd (atP b.name) w f.cps=jd (onP f.cps[j] b) w f.cps+w f.cps[j]:=by
 have hbo:=(ic (ir h)).bb b hb
 have e:jd (onP f.cps[j] b) w f.cps=jd (atP b.name) w (f.cps.set j {f.cps[j] with at_:=mkS []}):=by
  refine AU (by simp) fun k h1 h2=>?_
  rw[List.getElem_set]
  split
  ·rename_i e;subst e
   have e1:onP f.cps[j] b f.cps[j]=false:=by unfold onP;rw[jg];rfl
   have e2:atP b.name {f.cps[j] with at_:=mkS []}=false:=by unfold atP;rw[gP];exact gU hbo
   rw[e1,e2];rfl
  ·rename_i hne
   have e1:onP f.cps[j] b f.cps[k]=atP b.name f.cps[k]:=by
    unfold onP oth atP
    rw[xW h hj h1 hne]
    cases q:sEq f.cps[k].at_ b.name with
    |false=>simp
    |true=>rw[sw hbo _ q];rfl
   rw[e1]
 rw[e,wv hj]
 have e2:atP b.name {f.cps[j] with at_:=mkS []}=false:=by unfold atP;rw[gP];exact gU hbo
 have e3:atP b.name f.cps[j]=true:=ha
 rw[e2,e3]
 simp only[jR,jS]
 omega
end Go.Ev
namespace Go.Ev
theorem De {f:Fl} (hv:bL f=true) {b:Bt} (hb:b∈f.bts):dN f b.name=b.zone:=by
 obtain ⟨k,hk,e1,e2⟩:=ky hv hb
 have n0:¬((k:Int)<0):=by omega
 simp only[dN,e1,n0,if_false,jY,List.getElem?_eq_getElem hk,e2]
section
variable {g:Fl} (h:VF g) {i:Nat} (hi:i<g.cps.length) {b:Bt} (hb:b∈g.bts) (hw:sEq g.cps[i].at_ (mkS [])=true) (hfit:cA g g.cps[i] b false=0) {j:Nat} (hj:j<g.cps.length) (hne:i≠j) {b':Bt} (hb':b'∈g.bts) (ha:sEq g.cps[j].at_ b'.name=true) (h0:cA g g.cps[j] b' true=0)
include h hi hb hw hfit hj hne hb' ha h0
theorem GI:(setAt g i g.cps[i] b.name).cps.any (jr (setAt g i g.cps[i] b.name) g.cps[j] b')=false:=by
 have hv:=ir h
 have hbo':=(ic hv).bb b' hb'
 have ft:cA g g.cps[i] b true=0:=by
  rw[yt] at hfit
  cases hs:b.shut with
  |true=>rw[hs] at hfit;cases hfit
  |false=>rw[hs] at hfit;exact hfit
 have t1:=((nv _ _ _).1 ft).2.2.1
 have t2:=((nv _ _ _).1 h0).2.2.1
 rw[List.any_eq_false] at t1 t2⊢
 intro y hy
 obtain ⟨m,hm,rfl⟩:=List.getElem_of_mem hy
 have hm':m<g.cps.length:=by simpa [setAt] using hm
 rw[iM h hi hm hm']
 have hz:∀s,dN (setAt g i g.cps[i] b.name) s=dN g s:=fun _=>rfl
 split
 ·rename_i e;subst e
  have q:=t1 _ (List.getElem_mem hj)
  have o1:oth g.cps[i] g.cps[j]=true:=by
   unfold oth
   rw[xW h hi hj hne,sw hbo' _ ha];rfl
  have e1:=(cx _ _).1 ha
  simp only[jr,o1,Bool.true_and,e1,De hv hb'] at q
  simp only[jr,hz,De hv hb]
  intro hc
  apply q
  simp only[Bool.and_eq_true,Bool.or_eq_true] at hc⊢
  obtain ⟨c1,c2,c3⟩:=hc
  refine ⟨by rw[gP];exact c2,?_⟩
  rcases c3 with ⟨d1,d2⟩|⟨d1,d2⟩
  ·exact .inl ⟨by rw[gP];exact d1,d2.symm⟩
  ·exact .inr ⟨by rw[gP];exact d1,d2.symm⟩
 ·have q:=t2 _ (List.getElem_mem hm')
  simpa only[jr,hz] using q
theorem Ge (hns:sEq g.cps[j].near g.cps[j].svc=false):oX (setAt g i g.cps[i] b.name) g.cps[j] b'=false:=by
 have t:=((nv _ _ _).1 h0).2.2.2.1
 unfold oX at t⊢
 rw[hns] at t⊢
 cases hn:sEq g.cps[j].near (mkS []) with
 |true=>rfl
 |false=>
  rw[hn] at t
  simp only[ja,Bool.true_and,Bool.or_true,Bool.and_true,Bool.not_eq_false'] at t⊢
  rw[List.any_eq_true] at t⊢
  obtain ⟨y,hy,hq⟩:=t
  obtain ⟨m,hm',rfl⟩:=List.getElem_of_mem hy
  have hmi:i≠m:=fun e=>by
   subst e
   have hw':sEq g.cps[i].at_ (mkS [])=true:=hw
   simp only[kf,oth,hw',jZ,Bool.and_false,Bool.false_and] at hq
   cases hq
  have hm:m<(setAt g i g.cps[i] b.name).cps.length:=by simpa [setAt] using hm'
  refine ⟨_,List.getElem_mem hm,?_⟩
  rw[iM h hi hm hm',if_neg hmi]
  exact hq
theorem CC (hns:sEq g.cps[j].near g.cps[j].svc=false):cA (setAt g i g.cps[i] b.name) g.cps[j] b' true=0:=by
 have hv':=uO h hi hw hb hfit
 have hj':j<(setAt g i g.cps[i] b.name).cps.length:=by simpa [setAt] using hj
 have hgj:(setAt g i g.cps[i] b.name).cps[j]=g.cps[j]:=by rw[iM h hi hj' hj,if_neg hne]
 have S:=fun w=>D8 hv' hj' (b:=b') hb' (by rw[hgj];exact ha) w
 have F:=hv'.fit b' hb'
 have s1:=S Cp.room
 have s2:=S Cp.hold
 have s3:=S (fun _=>1)
 rw[hgj] at s1 s2 s3
 obtain ⟨a1,a2,_⟩:=(nv _ _ _).1 h0
 rw[nv]
 refine ⟨a1,a2,GI h hi hb hw hfit hj hne hb' ha h0,Ge h hi hb hw hfit hj hne hb' ha h0 hns,?_,?_,?_⟩
 ·have:=nk (onP g.cps[j] b') (setAt g i g.cps[i] b.name).cps
  omega
 ·rw[lW];omega
 ·rw[lW];omega
end
end Go.Ev
namespace Go.Ev
structure PlI (f0 g:Fl) (n:Nat):Prop where
 b:g.bts=f0.bts
 s:g.svs=f0.svs
 p:g.pack=f0.pack
 l:g.cps.length=f0.cps.length
 c:∀i (h1:i<g.cps.length) (h2:i<f0.cps.length),g.cps[i].name=f0.cps[i].name∧(dT f0.cps[i]=false→g.cps[i]=f0.cps[i])
 n:(waits g).length+n=(waits f0).length
 r:fj f0=[]→∀i (h1:i<g.cps.length),dT g.cps[i]=false→sEq g.cps[i].near g.cps[i].svc=false→∀b',b'∈g.bts→sEq g.cps[i].at_ b'.name=true→cA g g.cps[i] b' true=0
theorem Fh {f:Fl} (hv:bL f=true) {b b':Bt} (hb:b∈f.bts) (hb':b'∈f.bts) (h:sEq b.name b'.name=true):b=b':=by
 obtain ⟨k,hk,e1,e2⟩:=ky hv hb
 obtain ⟨k',hk',e1',e2'⟩:=ky hv hb'
 rw[(cx _ _).1 h,e1'] at e1
 have:k'=k:=by omega
 subst this
 rw[←e2,←e2']
theorem FP {f0 g:Fl} {n:Nat} (P:PlI f0 g n) (hv:VF g) {x:Stp} (F:qW g x):PlI f0 (plF g x) (n+1):=by
 have hV:=ir hv
 rw[F.put]
 have hl:(setAt g F.i (g.cps[F.i]'F.hi) F.b.name).cps.length=g.cps.length:=by simp[setAt]
 have hw:dT (g.cps[F.i]'F.hi)=true:=F.w
 have hbo:=(ic hV).bb _ F.hb
 have ft:cA g (g.cps[F.i]'F.hi) F.b true=0:=by
  have:=F.fit
  rw[yt] at this
  cases hs:F.b.shut with
  |true=>rw[hs] at this;cases this
  |false=>rw[hs] at this;exact this
 refine ⟨P.b,P.s,P.p,by rw[hl];exact P.l,fun i h1 h2=>?_,?_,fun hr i h1 hst hns b' hb' ha=>?_⟩
 ·have h1':i<g.cps.length:=by omega
  obtain ⟨p1,p2⟩:=P.c i h1' h2
  rw[iM hv F.hi h1 h1']
  split
  ·rename_i e
   subst e
   refine ⟨p1,fun hq=>?_⟩
   rw[p2 hq] at hw
   rw[hw] at hq;cases hq
  ·exact ⟨p1,p2⟩
 ·have hn:dT {g.cps[F.i]'F.hi with at_:=F.b.name}=false:=gU hbo
  have hp:0<g.cps.countP dT:=List.countP_pos_iff.2 ⟨_,List.getElem_mem F.hi,hw⟩
  have:=P.n
  simp only[waits,setAt,←List.countP_eq_length_filter] at this⊢
  rw[List.countP_set F.hi,hn,hw]
  simp
  omega
 ·have h1':i<g.cps.length:=by omega
  rw[iM hv F.hi h1 h1'] at hst hns ha⊢
  have hb'':b'∈g.bts:=hb'
  split
  ·rename_i e
   subst e
   rw[if_pos rfl] at ha
   have e:=Fh hV F.hb hb'' ha
   subst e
   rw[ER hv F.hi F.b F.b.name true]
   exact ft
  ·rename_i hne
   rw[if_neg hne] at hst hns ha
   exact CC hv F.hi F.hb F.w F.fit h1' hne hb'' ha (P.r hr i h1' hst hns b' hb'' ha) hns
theorem Ji {f:Fl} (hv:bL f=true):PlI f f 0:=by
 refine ⟨rfl,rfl,rfl,rfl,fun i h1 h2=>⟨rfl,fun _=>rfl⟩,rfl,fun hr i h1 hst hns b' hb' ha=>?_⟩
 simp only[fj,hv,jR,iJ,List.take_length,List.map_eq_nil_iff,List.filter_eq_nil_iff] at hr
 have h:=hr _ (List.getElem_mem h1)
 obtain ⟨k,hk,e1,e2⟩:=ky hv hb'
 have ea:f.cps[i].at_=b'.name:=(cx _ _).1 ha
 have hst':sEq f.cps[i].at_ (mkS [])=false:=hst
 have hne:=gU ((ic hv).bb _ hb')
 simp only[om,hst',ja,Bool.true_and,ea,hne,e1,jY,List.getElem?_eq_getElem hk,e2] at h
 simpa using h
theorem Ei (f0:Fl):∀(k:Nat) (f:Fl) (s:List Sp),VF f→PlI f0 f s.length→(waits f).length≤k→PlI f0 (place k f s).1 (place k f s).2.length∧VF (place k f s).1∧lp (place k f s).1=none:=by
 intro k
 induction k with
 |zero=>
  intro f s hv hP hk
  exact ⟨hP,hv,Cf hv (by show (waits f).length=0;omega)⟩
 |succ k ih=>
  intro f s hv hP hk
  cases hx:lp f with
  |none=>rw[rO hx];exact ⟨hP,hv,hx⟩
  |some x=>
   obtain ⟨F⟩:=oF hv hx
   have h1:=F.less hv
   have:=ih (plF f x) (s++[stS x]) (F.valid hv) (by rw[List.length_append];exact FP hP hv F) (by omega)
   simp only[place,hx]
   exact this
theorem Ef {g:Fl} (hv:bL g=true) (hn:lp g=none) {c:Cp} (hc:c∈g.cps) (hw:dT c=true) {b:Bt} (hb:b∈g.bts):cA g c b false≠0:=by
 have hq:c∈queue g:=(iK g).mem_iff.2 (List.mem_filter.2 ⟨hc,hw⟩)
 have h:=List.findSome?_eq_none_iff.1 hn c hq
 have hs:sEq (dR g c) (mkS [])=true:=by
  unfold vj at h
  cases hq:sEq (dR g c) (mkS []) with
  |true=>rfl
  |false=>rw[hq] at h;cases h
 obtain ⟨j,hj,rfl⟩:=List.getElem_of_mem hb
 rcases DZ g c g.bts.length (Nat.le_refl _) with ⟨h1,h2⟩|⟨m,hm,_,h1,h2,h3⟩
 ·exact h2 j hj hj
 ·have n0:¬((m:Int)<0):=by omega
  have:dR g c=g.bts[m].name:=by
   simp only[dR,h1,jY,List.getElem?_eq_getElem hm,n0,if_false]
  rw[this,gU ((ic hv).bb _ (List.getElem_mem hm))] at hs
  cases hs
end Go.Ev
namespace Go.Ev
theorem zS {A:List (List C)} (hA:BY A):∃f:Fl,eC [.l A]=some f.e∧f.Sz 1048576:=by
 obtain ⟨bs,g0,hb,hl⟩:=HR hA
 obtain ⟨f,p',g1,hz,h2,h3⟩:=Fj hb hl (p:=0) (by omega) (by omega)
 refine ⟨f,?_,hz⟩
 simp only[Fl.e,jA,jB] at g1
 simp only[eC,eC.d1,apL,jC,jD,g0,g1,call2,call6,jI,jV]
 rfl
theorem F7 {f:Fl} (hz':f.Sz 1048576):bZ f.e=some (AM (jv f)):=by
 have h3:=gB hz'
 simp only[fe] at h3
 simp only[bZ,bZ.d3,fe,apL,jC,jD,h3,aa,jI,C.B_b,jv]
 cases hv:bL f with
 |false=>rfl
 |true=>
  have a:=kY hz'
  have b:=rS hz' hv
  have c:=Bh (yB hv) hz'
  rw[show (queue f).findSome? (vj f)=lp f from rfl,DH] at b
  simp only[fe] at a b
  simp only[spS,spT,List.map_nil] at c
  simp only[jZ,jS,jR,a,b,call4,jI,jC,jD,C.B_b,C.L_l,show ao=([]:List (List C)) from rfl,c,aA,apL,bZ.d2,jV,AM]
theorem Gg {f:Fl} (hz':f.Sz 1048576):gq f.e=some (AM (jv f)):=by
 have h4:=iB hz'
 simp only[fe] at h4
 simp only[gq,gq.d1,fe,apL,jC,jD,h4,aa,jI,C.B_b,jv]
 cases hv:bL f with
 |false=>rfl
 |true=>
  have a:=BN hz'
  have b:=AZ (yB hv) hz'
  simp only[fe] at a b
  simp only[jZ,jS,jR,a,b,plS,call4,call5,jI,jC,jD,C.B_b,C.L_l,jV,AM]
theorem Fm (s:Str):(s.toList==s.toList)=true:=beq_self_eq_true _
theorem neI (n:Int):(n !=n)=false:=by simp
theorem zP {b:Bt} (h:b.marks.length≤1048576):jz (b.e++b.e)=some [.b true]:=by
 have hn:=xX b.marks h
 simp only[jz,jz.d1,Bt.e,jA,jB,apL,jC,jD,C.S_s,C.I_i,C.B_b,Fm,beq_self_eq_true,jR,hn,aa,jI,jV]
theorem uN {c:Cp} (h:c.likes.length≤1048576):eX (c.e++c.e)=some [.b true]:=by
 have hb:c.likes.length<big:=by simp only[big];omega
 have k:=bU (body:=Gf eX.d1) (S:=fun i=>[C.i (i:Nat)]++c.e++c.e) (n:=c.likes.length) (b:=0) (ys:=[])
  (fun i hi=>by
   simp only[Cp.e,jA,jB,apL,jC,jD,eX.d1,C.I_i,C.L_l,jW,ltL hi,jX,decide_true,jR,jY,w1 hi hb]
   rw[getD_map' Lk.e hi]
   simp only[Lk.e,jC,jD,C.S_s,C.I_i,Fm,beq_self_eq_true,Bool.and_self,jZ,jS])
  (by simp[eX.d1,Cp.e]) c.likes.length 0 rfl
 simp only[Cp.e,jA,jB,Int.natCast_zero] at k
 simp only[eX,eX.d3,Cp.e,jA,jB,apL,jC,jD,C.S_s,C.I_i,C.L_l,Fm,neI,jZ,ja,jR,jS,k,aA,eX.d2,jV]
theorem Aw {g:Fl} (hz:g.Sz 1048576):bz (g.e++g.e)=some [.b true]:=by
 have hb1:g.bts.length<big:=by have:=hz.1.1;simp only[big];omega
 have hb2:g.svs.length<big:=by have:=hz.2.1.1;simp only[big];omega
 have hb3:g.cps.length<big:=by have:=hz.2.2.1;simp only[big];omega
 have k1:=bU (body:=ap9 bz.d1) (S:=fun i=>[C.i (i:Nat)]++g.e++g.e) (n:=g.bts.length) (b:=0) (ys:=g.e++g.e)
  (fun i hi=>by
   have hB:=zP (hz.1.2 _ (List.getElem_mem hi)).2.2.1
   simp only[Bt.e,jA,jB] at hB
   simp only[Fl.e,jA,jB,apL,jC,jD,bz.d1,C.I_i,C.L_l,jW,ltL hi,jX,decide_true,jR,jY,w1 hi hb1]
   rw[getD_map' Bt.e hi]
   simp only[Bt.e,jC,jD,hB,aa,jI,C.B_b,jZ,jS])
  (by simp[bz.d1,Fl.e]) g.bts.length 0 rfl
 have k2:=bU (body:=ap9 bz.d2) (S:=fun i=>[C.i (i:Nat)]++g.e++g.e) (n:=g.svs.length) (b:=2) (ys:=g.e++g.e)
  (fun i hi=>by
   simp only[Fl.e,jA,jB,apL,jC,jD,bz.d2,C.I_i,C.L_l,jW,ltL hi,jX,decide_true,jR,jY,w1 hi hb2]
   rw[getD_map' Sv.e hi]
   simp only[Sv.e,jC,jD,C.S_s,C.I_i,Fm,beq_self_eq_true,Bool.and_self,jZ,jS])
  (by simp[bz.d2,Fl.e]) g.svs.length 0 rfl
 have k3:=bU (body:=ap9 bz.d3) (S:=fun i=>[C.i (i:Nat)]++g.e++g.e) (n:=g.cps.length) (b:=4) (ys:=[])
  (fun i hi=>by
   have hC:=uN (hz.2.2.2 _ (List.getElem_mem hi)).2.2.2.2.2.2.1
   simp only[Cp.e,jA,jB] at hC
   simp only[Fl.e,jA,jB,apL,jC,jD,bz.d3,C.I_i,C.L_l,jW,ltL hi,jX,decide_true,jR,jY,w1 hi hb3]
   rw[getD_map' Cp.e hi]
   simp only[Cp.e,jC,jD,hC,aa,jI,C.B_b,jZ,jS])
  (by simp[bz.d3,Fl.e]) g.cps.length 0 rfl
 simp only[Fl.e,jA,jB,Int.natCast_zero] at k1 k2 k3
 simp only[bz,bz.d7,Fl.e,jA,jB,apL,jC,jD,C.B_b,C.L_l,jW,neI,beq_self_eq_true,jZ,ja,jR,jS,k1,aA,bz.d6,k2,bz.d5,k3,bz.d4,jV]
theorem zm {s:List Sp} (hl:s.length≤1048576) (hg:∀x,x∈s→x.gone=[]):ez [.l (s.map Sp.e),.l (s.map Sp.e)]=some [.b true]:=by
 have hb:s.length<big:=by simp only[big];omega
 have k:=bU (body:=ap3 ez.d1) (S:=fun i=>[C.l (s.map Sp.e),C.l (s.map Sp.e),C.i (i:Nat)]) (n:=s.length) (b:=0) (ys:=[])
  (fun i hi=>by
   have hn:=xX [] (by simp)
   simp only[List.map_nil] at hn
   have hgi:=hg _ (List.getElem_mem hi)
   simp only[apL,jC,jD,ez.d1,C.I_i,C.L_l,jW,ltL hi,jX,decide_true,jR,jY,w1 hi hb]
   rw[getD_map' Sp.e hi]
   simp only[Sp.e,hgi,List.map_nil,jC,jD,nH,nH.d1,apL,C.S_s,Fm,jR,hn,aa,jI,jV,C.B_b,jZ,jS])
  (by simp[ez.d1]) s.length 0 rfl
 simp only[Int.natCast_zero] at k
 simp only[ez,ez.d3,apL,jC,jD,C.L_l,jW,neI,jS,k,aA,ez.d2,jV]
end Go.Ev
namespace Go.Ev
section
variable {f g:Fl} {n:Nat} (hz:f.Sz 1048576) (gz:g.Sz 1048576) (hg:bL g=true) (P:PlI f g n) (hn:lp g=none)
include hz gz hg P hn
theorem Jg {a:Nat} (ha:a<f.cps.length) (c:Cp) (hc:c.name=f.cps[a].name):∀d b,b+d=g.bts.length→
  lim (uZ av.d1) ([C.i (a:Nat),.i (b:Nat)]++f.e++g.e++c.e)=some (.brk 2 ([C.i (a:Nat)]++f.e++g.e)):=by
 intro d
 have hl:=P.l
 have ha':a<g.cps.length:=by omega
 have hb1:g.bts.length<big:=by have:=gz.1.1;simp only[big];omega
 induction d with
 |zero=>
  intro b hb
  have:¬((b:Int)<(g.bts.length:Int)):=by omega
  refine aQ ?_
  simp only[Fl.e,Cp.e,jA,jB,apL,jC,jD,av.d1,C.I_i,C.L_l,jW,this,decide_false,jS]
 |succ d ih=>
  intro b hb
  have hlt:b<g.bts.length:=by omega
  have F:=xU gz c.name g.bts[b].name
  simp only[Fl.e,jA,jB] at F
  have q0:(g.cps[a].at_.toList==(bs #[]).toList)=dT g.cps[a]:=rfl
  have ent:uZ av.d1 ([C.i (a:Nat),.i (b:Nat)]++f.e++g.e++c.e)=bif dT g.cps[a] then (bif (((rM g c.name g.bts[b].name:Nat):Int)==0) then some (.ret [.b false]) else some (.again ([C.i (a:Nat),.i (b+1:Nat)]++f.e++g.e++c.e))) else some (.brk 2 ([C.i (a:Nat)]++f.e++g.e)):=by
   simp only[Fl.e,Cp.e,jA,jB,apL,jC,jD,av.d1,C.I_i,C.L_l,jW,ltL hlt,ltL ha',jX,decide_true,jR,jY,w1 hlt hb1]
   rw[getD_map' Cp.e ha',getD_map' Bt.e hlt]
   simp only[Cp.e,Bt.e,jC,jD,C.S_s,q0,F,aa,jI,C.I_i]
  cases hw:dT g.cps[a] with
  |false=>exact aQ (by rw[ent,hw];rfl)
  |true=>
   have hne:rM g c.name g.bts[b].name≠0:=by
    obtain ⟨k,hk,e1,e2⟩:=nj (mA hg) (List.getElem_mem ha')
    have en:c.name=g.cps[a].name:=by rw[hc,(P.c a ha' ha).1]
    rw[en,Et hg hk e1 hlt,e2]
    exact Ef hg hn (List.getElem_mem ha') hw (List.getElem_mem hlt)
   have hq:(((rM g c.name g.bts[b].name:Nat):Int)==0)=false:=by rw[beq_eq_false_iff_ne];omega
   rw[aG (by rw[ent,hw,hq];rfl)]
   exact ih (b+1) (by omega)
theorem Jk:lim (ap9 av.d4) ([C.i 0]++f.e++g.e)=some (.brk 0 (f.e++g.e)):=by
 have hl:=P.l
 have hb1:f.cps.length<big:=by have:=hz.2.2.1;simp only[big];omega
 have k:=bU (body:=ap9 av.d4) (S:=fun i=>[C.i (i:Nat)]++f.e++g.e) (n:=f.cps.length) (b:=0) (ys:=f.e++g.e)
  (fun i hi=>by
   have hi':i<g.cps.length:=by omega
   have D:=Jg hz gz hg P hn hi f.cps[i] rfl g.bts.length 0 (by omega)
   have hC:=uN (hz.2.2.2 _ (List.getElem_mem hi)).2.2.2.2.2.2.1
   have q0:(f.cps[i].at_.toList==(bs #[]).toList)=dT f.cps[i]:=rfl
   simp only[Fl.e,Cp.e,jA,jB,Int.natCast_zero] at D hC
   simp only[Fl.e,jA,jB,apL,jC,jD,av.d4,C.I_i,C.L_l,jW,ltL hi,ltL hi',jX,decide_true,jR,jY]
   rw[getD_map' Cp.e hi,getD_map' Cp.e hi']
   cases hw:dT f.cps[i] with
   |true=>
    simp only[Cp.e,jC,jD,C.S_s,q0,hw,jZ,jS,jJ,apL,av.d3,D,aA,av.d2,C.I_i,w1 hi hb1]
   |false=>
    have e:=(P.c i hi' hi).2 hw
    simp only[e,Cp.e,jC,jD,C.S_s,q0,hw,ja,jR,hC,aa,jI,C.B_b,jZ,jS,jJ,apL,av.d3,D,aA,av.d2,C.I_i,w1 hi hb1])
  (by simp[av.d4,Fl.e]) f.cps.length 0 rfl
 exact k
theorem HB (hr:fj f=[]) {s:Str} (hs:s∈fj g):∃k,∃hk:k<g.cps.length,cIx g s=(k:Nat)∧sEq g.cps[k].near g.cps[k].svc=true:=by
 simp only[fj,hg,jR,iJ,List.take_length,List.mem_map,List.mem_filter] at hs
 obtain ⟨c,⟨hc,hw⟩,rfl⟩:=hs
 obtain ⟨k,hk,e1,e2⟩:=nj (mA hg) hc
 refine ⟨k,hk,e1,?_⟩
 rw[e2]
 cases hns:sEq c.near c.svc with
 |true=>rfl
 |false=>
  exfalso
  subst e2
  have hst:dT g.cps[k]=false:=by
   cases q:dT g.cps[k] with
   |false=>rfl
   |true=>
    have q':sEq g.cps[k].at_ (mkS [])=true:=q
    simp only[om,q',jZ,Bool.false_and] at hw
    cases hw
  have hst':sEq g.cps[k].at_ (mkS [])=false:=hst
  rcases ((yB hg).cp k hk).2.2.2 with q|q
  ·rw[hst'] at q;cases q
  ·obtain ⟨b,hb,hq⟩:=List.any_eq_true.1 q
   have ea:g.cps[k].at_=b.name:=((cx _ _).1 hq).symm
   have h0:=P.r hr k hk hst hns b hb (by rw[ea];exact (cx _ _).2 rfl)
   obtain ⟨j,hj,j1,j2⟩:=ky hg hb
   have hbn:=gU ((ic hg).bb _ hb)
   simp only[om,ja,Bool.true_and,ea,hbn,j1,jY,List.getElem?_eq_getElem hj,j2,h0] at hw
   simp at hw
theorem Jv (hr:fj f=[]) (hlr:(fj g).length≤1048576):lim (ap6 av.d5) ([C.i 0]++g.e++[.l ((fj g).map sE)])=some (.brk 4 []):=by
 have hb1:(fj g).length<big:=by simp only[big];omega
 have k:=bU (body:=ap6 av.d5) (S:=fun i=>[C.i (i:Nat)]++g.e++[.l ((fj g).map sE)]) (n:=(fj g).length) (b:=4) (ys:=[])
  (fun i hi=>by
   obtain ⟨k,hk,e1,e2⟩:=HB hz gz hg P hn hr (List.getElem_mem hi)
   obtain ⟨c,ok,W,hc⟩:=Ez (f:=g) (fj g)[i] gz.2.2.1
   have hcn:sEq c.near c.svc=true:=by
    rcases hc with ⟨_,h⟩|⟨_,k',hk',h,rfl⟩
    ·omega
    ·have:k'=k:=by omega
     subst this;exact e2
   have hcn':(c.near.toList==c.svc.toList)=true:=hcn
   simp only[Fl.e,Cp.e,jA,jB] at W
   simp only[Fl.e,jA,jB,apL,jC,jD,av.d5,C.I_i,C.L_l,jW,ltL hi,jX,decide_true,jR,jY,w1 hi hb1]
   rw[getD_map' sE hi]
   simp only[sE,jC,jD,W,call13,jI,C.S_s,hcn',jZ,jS])
  (by simp[av.d5,Fl.e]) (fj g).length 0 rfl
 exact k
end
theorem ES {f:Fl} (hz:f.Sz 1048576):(fj f).length≤1048576:=by
 unfold fj
 cases bL f with
 |false=>simp
 |true=>
  simp only[jR,iJ,jW]
  exact Nat.le_trans (List.length_filter_le _ _) (by rw[List.take_length];exact hz.2.2.1)
theorem uv {f:Fl} (hv:bL f=true):(qm f).length=(waits f).length:=by
 simp only[qm,hv,jR,jW,(iK f).length_eq]
theorem rZ {A:List (List C)} (hA:BY A):av [.l A]=some [.b true]:=by
 obtain ⟨f,g1,hz⟩:=zS hA
 have p1:=F7 hz
 have p2:=Gg hz
 have v:=gB hz
 obtain ⟨gz,hl,hg0⟩:=EX hz
 have w1':=Aw gz
 have w2':=zm (by omega) hg0
 simp only[Fl.e,AM,jA,jB] at g1 p1 p2 v w1'
 simp only[av,av.d8,apL,jC,jD,C.L_l]
 cases decide ((A.length:Int)>1048576) with
 |true=>rfl
 |false=>
  simp only[jS,g1,p1,p2,call4,call5,aa,jI,jC,jD,C.L_l,w1',w2',C.B_b,jZ,ja,jR,v]
  cases hv:bL f with
  |false=>
   have:jv f=(fl0,[]):=by simp only[jv,hv,jS]
   rw[this]
   rfl
  |true=>
   have hw60:(waits f).length≤60:=Nat.le_trans (List.length_filter_le _ _) (yB hv).n60
   obtain ⟨P,hvg,hno⟩:=Ei f 60 f [] (yB hv) (Ji hv) hw60
   have e:jv f=place 60 f []:=by simp only[jv,hv,jR]
   rw[←e] at P hvg hno
   generalize jv f=r at*
   have hgv:=ir hvg
   have V2:=iB gz
   have Q1:=oS hz
   have Q2:=oS gz
   have R1:=oI hz
   have R2:=oI gz
   have D:=Jk hz gz hgv P hno
   rw[hgv] at V2
   simp only[Fl.e,jA,jB] at V2 Q1 Q2 R1 R2 D
   have hn:=P.n
   have q1:=uv hv
   have q2:=uv hgv
   have wq:w64 (((qm f).length:Int)-((qm r.1).length:Int))=(r.2.length:Int):=by rw[aP (by omega) (by omega)];omega
   simp only[V2,Q1,Q2,aa,jI,jC,C.B_b,jZ,ja,jR,jS,C.L_l,jW,wq,neI,D,aA,apL,jD,av.d7,R1,R2]
   cases hr:fj f with
   |cons x l=>
    have:(((x::l).length:Int)>0):=by rw[List.length_cons];omega
    simp only[this,decide_true,jR,jV]
   |nil=>
    have D5:=Jv hz gz hgv P hno hr (ES gz)
    simp only[Fl.e,jA,jB] at D5
    simp only[List.length_nil,show ¬(((0:Nat):Int)>0) by omega,decide_false,jS,D5,aA,av.d6,jV]
end Go.Ev
namespace Go.Ev
open Go.RowKit
def bE (n:Int):List C:=[.i n]
def yz (k:IntKind) (w:World) (a:Option Addr) (len cap:Nat) (zs:List Int):Prop:=
 (a=none∧len=0∧cap=0∧zs=[])∨
 ∃x,a=some x∧len≤cap∧cap≤maxLen∧zs.length=cap∧(∀i,i<zs.length→w.cell? (x.add i)=some (.int k (zs.getD i 0)))∧∀n∈zs,(Lit.int k n).wf=true
theorem C0 {w:World} {a:Addr} {v:Value} (h:w.cell? a=some v):a.block<w.heap.size∧a.spot=none:=by
 simp only[World.cell?] at h
 split at h
 ·rename_i c _ _ hb
  refine ⟨?_,?_⟩
  ·exact (Array.getElem?_eq_some_iff.1 hb).1
  ·split at h
   ·simp at h
   ·rename_i hs;simpa using hs
 ·simp at h
theorem CY {T:Tys} {F:Nat→Prop} {w:World} {a:Option Addr} {len cap:Nat} {zs:List Int} {t:TypeId} {d:TD} (hd:aW T t=some d) (hcts:d.cts=[.int .u8]) (hF:∀k,k<w.heap.size→F k) (h:yz .u8 w a len cap zs):
  cd T F w (.sl t) (.l ((zs.take len).map bE)) (.slice a len cap):=by
 rcases h with ⟨rfl,rfl,rfl,rfl⟩|⟨x,rfl,hl,hm,hz,hc,hw⟩
 ·exact .sl0 t none 0
 ·rcases Nat.eq_zero_or_pos len with h0|h0
  ·subst h0
   rw[List.take_zero,List.map_nil]
   exact .sl0 t (some x) cap
  ·have hc0:=hc 0 (by omega)
   have hx:=C0 hc0
   rw[Addr.add,if_pos rfl] at hx
   obtain ⟨g,o,sp⟩:=x
   obtain ⟨hg,hsp⟩:=hx
   simp only at hsp;subst hsp
   have hlen:((zs.take len).map bE).length=len:=by simp;omega
   have key:=cd.sl (T:=T) (F:=F) (w:=w) t d ((zs.take len).map bE) g o cap (fun i _=>.int .u8 (zs.getD i 0)) hd (hF _ hg) (by omega)
    (fun i cs hi=>by
     simp only[List.getElem?_map,Option.map_eq_some_iff] at hi
     obtain ⟨n,_,rfl⟩:=hi
     rw[hcts];rfl)
    (fun i cs j c hi hj=>by
     have hil:i<len:=by
      have:=(List.getElem?_eq_some_iff.1 hi).1
      omega
     simp only[List.getElem?_map,Option.map_eq_some_iff] at hi
     obtain ⟨n,hn,rfl⟩:=hi
     have hj0:j=0:=by
      have:=(List.getElem?_eq_some_iff.1 hj).1
      simp only[bE,List.length_cons,List.length_nil] at this;omega
     subst hj0
     have h1:=hc i (by omega)
     rw[hcts]
     have ha:Addr.add ⟨g,o,none⟩ i=⟨g,o+(i*[CT.int .u8].length+0),none⟩:=by
      rw[Addr.add];split
      ·rename_i h;subst h;simp
      ·simp
     rw[←ha];exact h1)
    (fun i cs j c t' hi hj ht=>by
     have hil:i<len:=by
      have:=(List.getElem?_eq_some_iff.1 hi).1
      omega
     simp only[List.getElem?_map,Option.map_eq_some_iff] at hi
     obtain ⟨n,hn,rfl⟩:=hi
     have hj0:j=0:=by
      have:=(List.getElem?_eq_some_iff.1 hj).1
      simp only[bE,List.length_cons,List.length_nil] at this;omega
     subst hj0
     rw[hcts] at ht
     simp only[List.getElem?_cons_zero,Option.some.injEq] at ht
     subst ht
     simp only[bE,List.getElem?_cons_zero,Option.some.injEq] at hj
     subst hj
     rw[List.getElem?_take,if_pos hil] at hn
     rw[List.getD_eq_getElem?_getD,hn]
     exact .int .u8 n)
   rw[hlen] at key
   exact key
theorem GQ {n:Int} (h:(Lit.int .u8 n).wf=true):0≤n∧n≤255:=by
 simp only[Lit.wf,Bool.and_eq_true,decide_eq_true_eq] at h
 exact h
theorem yz.bytes {w:World} {a:Option Addr} {len cap:Nat} {zs:List Int} (h:yz .u8 w a len cap zs):∀n,n∈zs.take len→0≤n∧n≤255:=by
 intro n hn
 have hn':=List.mem_of_mem_take hn
 rcases h with ⟨_,_,_,rfl⟩|⟨x,_,_,_,_,_,hw⟩
 ·simp at hn'
 ·exact GQ (hw n hn')
theorem Hk {zs:List Int} (h:∀n,n∈zs→0≤n∧n≤255):BY (zs.map bE):=fun r hr=>by
 obtain ⟨n,hn,rfl⟩:=List.mem_map.1 hr
 exact ⟨n,rfl,h n hn⟩
end Go.Ev
