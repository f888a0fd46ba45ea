/- Proved here: the law FnPilotOrderCard of the given program answers true at every input, and leaves the input as it was; no condition. This text: lemmas on the way (an evaluator of the program's code, sound once for all; the functions it prints; plain proofs on these). -/
import Derived.Test.YtjjlcnfineddoaaGreatDoorP4
set_option linter.all false
set_option autoImplicit false
set_option maxRecDepth 8000
namespace Go.Ev
theorem tX {α:Type} (E:α→List C) {l:List α} (x:α) {i:Nat} (hi:i≤l.length) (hl:l.length≤1048576):ti [.i (i:Int),.l (l.map E),.l [E x]]=some [.l ((l.take i++[x]++l.drop i).map E)]:=by
 have h1:((i:Int)≤((l.map E).length:Int)):=by rw[jW];omega
 have h2:(l.map E).length+1≤4294967296:=by rw[jW];omega
 simp only[ti,jC,jD,C.I_i,C.L_l,jX,decide_true,h1,h2,List.length_singleton,beq_self_eq_true,Bool.true_and,jR,jY,List.map_append,List.map_take,List.map_drop,List.map_cons,List.map_nil]
theorem Au {α:Type} (E:α→List C) {l:List α} {i:Nat} (hi:i<l.length) (hl:l.length≤1048576):sX [.i (i:Int),.i (w64 ((i:Int)+1)),.l (l.map E)]=some [.l ((l.take i++l.drop (i+1)).map E)]:=by
 have h1:((i:Int)<((l.map E).length:Int)):=by rw[jW];omega
 have h2:w64 ((i:Int)+1)=(i:Int)+1:=by rw[w1 hi (by omega)];rfl
 simp only[sX,jC,jD,C.I_i,C.L_l,jX,decide_true,h1,h2,Bool.true_and,jR,jY,List.map_append,List.map_take,List.map_drop]
theorem xd {α:Type} (p:α→Bool) {l:List α} {n:Nat} (h:dI p l n<0):∀i (hi:i<l.length),p l[i]=false:=fun i hi=>by
 have:=qF p l n h
 rw[List.any_eq_false] at this
 have:=this _ (List.getElem_mem hi)
 simpa using this
def tQ (g:Fl):Fl×Int:=bif !bJ g then (fl0,2) else (g,0)
theorem kH (g:Fl):bl (bif !bJ g then some (Out.ret [.b false,.i 2,.l [],.l [],.l []]) else some (.ret [.b g.pack,.i 0,.l (g.bts.map Bt.e),.l (g.svs.map Sv.e),.l (g.cps.map Cp.e)]))=some (wJ (tQ g)):=by
 unfold tQ;cases bJ g<;>rfl
section
variable {f:Fl} (hz:f.Sz 1048576) (hv:bJ f=true)
include hz
theorem HQ (b:Bt):az [.l (f.bts.map Bt.e),.p b.e]=some [.i (dI (gtP Bt.name b) f.bts 0)]:=by
 have hl:f.bts.length≤1048576:=hz.1.1
 have h:=iT (l:=f.bts) (body:=apn 4 az.d1) (S:=fun i=>[.l (f.bts.map Bt.e),.p b.e,.i (f.bts.length:Nat),.i (i:Nat)]) (p:=gtP Bt.name b) (b:=0)
  (fun i hi=>by
   simp only[apL,jC,jD,az.d1,C.I_i,C.L_l,C.S_s,jW,jY,getD_map' Bt.e hi,w1 hi (show f.bts.length<big by simp only[big];omega)]
   simp only[Bt.e,jC,jD,fj,fj.d1,apL,C.S_s,C.s8,C.P_p,jR,jV,ae,jI,C.B_b,ltL hi,jX,decide_true]
   rfl)
  (by simp[az.d1]) f.bts.length 0 rfl
 simp only[az,az.d3,apL,jC,jD,C.L_l,jW]
 rw[show (fun xs:List C=>az.d2)=fun _=>some (.ret [.i (-1)]) from rfl]
 erw[h]
 rfl
theorem HF (b:Cp):aB [.l (f.cps.map Cp.e),.p b.e]=some [.i (dI (gtP Cp.name b) f.cps 0)]:=by
 have hl:f.cps.length≤1048576:=hz.2.2.1
 have h:=iT (l:=f.cps) (body:=apn 4 aB.d1) (S:=fun i=>[.l (f.cps.map Cp.e),.p b.e,.i (f.cps.length:Nat),.i (i:Nat)]) (p:=gtP Cp.name b) (b:=0)
  (fun i hi=>by
   simp only[apL,jC,jD,aB.d1,C.I_i,C.L_l,C.S_s,jW,jY,getD_map' Cp.e hi,w1 hi (show f.cps.length<big by simp only[big];omega)]
   simp only[Cp.e,jC,jD,fm,fm.d1,apL,C.S_s,C.s8,C.P_p,jR,jV,ae,jI,C.B_b,ltL hi,jX,decide_true]
   rfl)
  (by simp[aB.d1]) f.cps.length 0 rfl
 simp only[aB,aB.d3,apL,jC,jD,C.L_l,jW]
 rw[show (fun xs:List C=>aB.d2)=fun _=>some (.ret [.i (-1)]) from rfl]
 erw[h]
 rfl
include hv
theorem HE {e:Evn} (he:e.Sz 1048576) (hk:e.kd=1):au (f.e++e.e)=some (wJ (tQ (dG f e).1)):=by
 have hV:=cq hz
 have hC:=iJ hz
 have hB:=mu he.1.2.2.1
 have hA:=h9 f e.b.name hz.1.1
 have hs:∀(i j:Nat) (hi:i<f.bts.length) (hj:j<f.bts.length),i<j→sLt f.bts[i].name f.bts[j].name=true:=fun i j hi hj hlt=>by
  obtain ⟨d,rfl⟩:∃d,j=i+d+1:=⟨j-i-1,by omega⟩
  exact CE hv d i hj
 have hR:=cq (nk hz hv he)
 rw[show dG f e=({f with bts:=j5 Bt.name e.b f.bts},true) by simp only[dG,hk];rfl] at hR⊢
 rw[hv] at hV
 simp only[Fl.e,Bt.e,Bt.o,jA,jB] at hV hC hB hA hR
 have n1:((1:Int)==1)=true:=rfl
 rcases yS f e.b.name with h|⟨k,hkl,h,hq⟩
 ·have hI:=HQ hz e.b
  have h3:¬(bIx f e.b.name≥0):=by omega
  simp only[Bt.e] at hI
  rcases ye Bt.name e.b hs (xd _ h) with ⟨hj,hp⟩|⟨j,hjl,hj,hp⟩
  ·have hN:=tX Bt.e (l:=f.bts) e.b (Nat.le_refl _) hz.1.1
   rw[List.take_length,List.drop_length,List.append_nil,←hp] at hN
   simp only[Bt.e] at hN
   rw[←kH]
   simp only[au,Fl.e,Evn.e_l,jA,jB]
   simp only[au.d3,apL,jC,jD,hV,hC,hB,hA,hI,hj,h3,ae,call4,call6,jI,C.B_b,C.I_i,C.L_l,ah,hk,n1,decide_true,decide_false,jR,jS,jZ,jW,dC,rows,hN,hR]
  ·have hN:=tX Bt.e (l:=f.bts) e.b (i:=j) (by omega) hz.1.1
   rw[←hp] at hN
   have h4:¬((j:Nat):Int)<0:=by omega
   simp only[Bt.e] at hN
   rw[←kH]
   simp only[au,Fl.e,Evn.e_l,jA,jB]
   simp only[au.d3,apL,jC,jD,hV,hC,hB,hA,hI,hj,h3,h4,ae,call4,call6,jI,C.B_b,C.I_i,C.L_l,ah,hk,n1,decide_true,decide_false,jR,jS,jZ,jW,dC,rows,hN,hR]
 ·have hp:=yC Bt.name e.b hs hkl hq
  rw[hp] at hR⊢
  have g0:=getD_map' Bt.e hkl
  have g2:aK f.bts[k].e 0 [.s e.b.name,.s e.b.zone,.l (e.b.marks.map sE),.i e.b.room,.i e.b.hold,.b e.b.shut]=e.b.e:=rfl
  have hst:(f.bts.map Bt.e).set k e.b.e=(f.bts.set k e.b).map Bt.e:=(List.map_set).symm
  have h3:((k:Nat):Int)≥0:=by omega
  rw[←kH]
  simp only[au,Fl.e,Evn.e_l,jA,jB]
  simp only[au.d3,apL,jC,jD,hV,hC,hB,hA,h,h3,ae,call4,call6,jI,C.B_b,C.I_i,C.L_l,ah,hk,n1,decide_true,decide_false,jR,jS,jZ,jW,jX,ltL hkl,jY,g0,g2,hst,hR]
theorem HY {e:Evn} (he:e.Sz 1048576) (hk:e.kd=3):au (f.e++e.e)=some (wJ (tQ (dG f e).1)):=by
 have hV:=cq hz
 have hC:=iJ hz
 have hB:=nQ he.2.1.2.2.2.2.2.2.1
 have hA:=nJ f e.c.name hz.2.2.1
 have hs:∀(i j:Nat) (hi:i<f.cps.length) (hj:j<f.cps.length),i<j→sLt f.cps[i].name f.cps[j].name=true:=fun i j hi hj hlt=>by
  obtain ⟨d,rfl⟩:∃d,j=i+d+1:=⟨j-i-1,by omega⟩
  exact Ah hv d i hj
 have hR:=cq (nk hz hv he)
 rw[show dG f e=({f with cps:=j5 Cp.name e.c f.cps},true) by simp only[dG,hk];rfl] at hR⊢
 rw[hv] at hV
 simp only[Fl.e,Cp.e,Cp.o,jA,jB] at hV hC hB hA hR
 have n1:((3:Int)==1)=false∧((3:Int)==2)=false∧((3:Int)==3)=true:=⟨rfl,rfl,rfl⟩
 rcases qm f e.c.name with h|⟨k,hkl,h,hq⟩
 ·have hI:=HF hz e.c
  have h3:¬(cIx f e.c.name≥0):=by omega
  simp only[Cp.e] at hI
  rcases ye Cp.name e.c hs (xd _ h) with ⟨hj,hp⟩|⟨j,hjl,hj,hp⟩
  ·have hN:=tX Cp.e (l:=f.cps) e.c (Nat.le_refl _) hz.2.2.1
   rw[List.take_length,List.drop_length,List.append_nil,←hp] at hN
   simp only[Cp.e] at hN
   rw[←kH]
   simp only[au,Fl.e,Evn.e_l,jA,jB]
   simp only[au.d3,apL,jC,jD,hV,hC,hB,hA,hI,hj,h3,ae,call4,call12,jI,C.B_b,C.I_i,C.L_l,ah,hk,n1,decide_true,decide_false,jR,jS,jZ,jW,dJ,rows,hN,hR]
  ·have hN:=tX Cp.e (l:=f.cps) e.c (i:=j) (by omega) hz.2.2.1
   rw[←hp] at hN
   have h4:¬((j:Nat):Int)<0:=by omega
   simp only[Cp.e] at hN
   rw[←kH]
   simp only[au,Fl.e,Evn.e_l,jA,jB]
   simp only[au.d3,apL,jC,jD,hV,hC,hB,hA,hI,hj,h3,h4,ae,call4,call12,jI,C.B_b,C.I_i,C.L_l,ah,hk,n1,decide_true,decide_false,jR,jS,jZ,jW,dJ,rows,hN,hR]
 ·have hp:=yC Cp.name e.c hs hkl hq
  rw[hp] at hR⊢
  have g0:=getD_map' Cp.e hkl
  have g2:aK f.cps[k].e 0 [.s e.c.name,.s e.c.svc,.i e.c.rank,.i e.c.born,.i e.c.room,.i e.c.hold,.s e.c.sel,.l (e.c.likes.map Lk.e),.i e.c.apart,.s e.c.near,.s e.c.fixed,.s e.c.at_]=e.c.e:=rfl
  have hst:(f.cps.map Cp.e).set k e.c.e=(f.cps.set k e.c).map Cp.e:=(List.map_set).symm
  have h3:((k:Nat):Int)≥0:=by omega
  rw[←kH]
  simp only[au,Fl.e,Evn.e_l,jA,jB]
  simp only[au.d3,apL,jC,jD,hV,hC,hB,hA,h,h3,ae,call4,call12,jI,C.B_b,C.I_i,C.L_l,ah,hk,n1,decide_true,decide_false,jR,jS,jZ,jW,jX,ltL hkl,jY,g0,g2,hst,hR]
theorem Ik {e:Evn} (he:e.Sz 1048576) (hk:e.kd=2):au (f.e++e.e)=some (wJ (bif (dG f e).2 then tQ (dG f e).1 else (fl0,3))):=by
 have hV:=cq hz
 have hC:=iJ hz
 have hA:=h9 f e.nm hz.1.1
 have hlc:f.cps.length<big:=by have:=hz.2.2.1;simp only[big];omega
 have hR:=cq (nk hz hv he)
 have hH:dG f e=bif decide (bIx f e.nm<0) then (f,false) else ({f with bts:=f.bts.take (bIx f e.nm).toNat++f.bts.drop ((bIx f e.nm).toNat+1),cps:=f.cps.map (km e.nm)},true):=by
  simp only[dG,hk];rfl
 rw[hH] at hR⊢
 rw[hv] at hV
 have n1:((2:Int)==1)=false∧((2:Int)==2)=true:=⟨rfl,rfl⟩
 rcases yS f e.nm with h|⟨k,hkl,h,-⟩
 ·simp only[h,decide_true,jR,jS]
  simp only[au,Fl.e,Evn.e_l,jA,jB] at hV hC hA⊢
  simp only[au.d3,apL,jC,jD,hV,hC,hA,h,ae,call4,jI,C.B_b,C.I_i,C.L_l,ah,hk,n1,decide_true,jR,jS,jZ]
  rfl
 ·have hL:=ep (n:=f.cps.length) (b:=1) (ys:=[.b false,.b f.pack,.l [],.l [],.l [],.l ((f.bts.take k++f.bts.drop (k+1)).map Bt.e),.l (f.svs.map Sv.e),.l ((f.cps.map (km e.nm)).map Cp.e)]) (body:=apn 31 au.d1) (S:=fun i=>[C.i (f.cps.length:Nat),C.i (i:Nat)]++e.e++[.b false,.b f.pack,.l [],.l [],.l [],.l ((f.bts.take k++f.bts.drop (k+1)).map Bt.e),.l (f.svs.map Sv.e),.l ((mi (km e.nm) f.cps i).map Cp.e)])
   (fun i hi=>by
    have hu:=oh (km e.nm) f.cps i
    have hi':i<(mi (km e.nm) f.cps i).length:=by omega
    have hg:(mi (km e.nm) f.cps i)[i]=f.cps[i]:=by
     have:=u0 (km e.nm) hi
     rw[List.getElem?_eq_getElem hi'] at this
     exact Option.some.inj this
    have g0:=getD_map' Cp.e hi'
    rw[hg] at g0
    have g1:(f.cps[i].e).getD 11 .nil=.s f.cps[i].at_:=rfl
    have g2:aK f.cps[i].e 11 [.s (bs #[])]=({f.cps[i] with at_:=mkS []}:Cp).e:=by rw[eu];rfl
    have hS:=wA (km e.nm) hi
    have hM:=xT (km e.nm) hi
    simp only[Evn.e_l,jA,jB,apL,jC,jD,au.d1,C.I_i,C.L_l,C.S_s,jW,hu,jY,ltL hi,decide_true,jR,jX,w1 hi hlc,g0,g1,g2]
    cases hq:sEq f.cps[i].at_ e.nm with
    |true=>
     have e2:(f.cps[i].at_.toList==e.nm.toList)=true:=hq
     simp only[e2,jR]
     rw[←hS,List.map_set]
     simp only[km,hq,jR]
    |false=>
     have e2:(f.cps[i].at_.toList==e.nm.toList)=false:=hq
     simp only[e2,jS]
     rw[hM (by simp only[km,hq,jS])])
   (by simp[Evn.e,Bt.e,Cp.e,au.d1,oh,zv]) f.cps.length 0 (by omega)
  have hb3:¬((k:Nat):Int)<0:=by omega
  have hD:=Au Bt.e hkl hz.1.1
  simp only[h,hb3,decide_false,jS,jR,jY] at hR⊢
  rw[←kH]
  simp only[au,Fl.e,Evn.e_l,jA,jB] at hV hC hA hL hR⊢
  simp only[mi,List.take_zero,List.map_nil,List.drop_zero,jB,Int.natCast_zero,hk] at hL
  simp only[au.d3,apL,jC,jD,hV,hC,hA,h,hb3,ae,call4,jI,C.B_b,C.I_i,C.L_l,ah,hk,n1,decide_false,jR,jS,jZ,fF,hD,jW]
  erw[hL]
  simp only[bg,au.d2,apL,jC,jD,C.L_l,hR,ae,jI,C.B_b,ah]
theorem It {e:Evn} (he:e.Sz 1048576) (hk:e.kd=4):au (f.e++e.e)=some (wJ (bif (dG f e).2 then tQ (dG f e).1 else (fl0,3))):=by
 have hV:=cq hz
 have hC:=iJ hz
 have hA:=nJ f e.nm hz.2.2.1
 have hR:=cq (nk hz hv he)
 have hH:dG f e=bif decide (cIx f e.nm<0) then (f,false) else ({f with cps:=f.cps.take (cIx f e.nm).toNat++f.cps.drop ((cIx f e.nm).toNat+1)},true):=by
  simp only[dG,hk];rfl
 rw[hH] at hR⊢
 rw[hv] at hV
 have n1:((4:Int)==1)=false∧((4:Int)==2)=false∧((4:Int)==3)=false∧((4:Int)==4)=true:=⟨rfl,rfl,rfl,rfl⟩
 rcases qm f e.nm with h|⟨k,hkl,h,-⟩
 ·simp only[h,decide_true,jR,jS]
  simp only[au,Fl.e,Evn.e_l,jA,jB] at hV hC hA⊢
  simp only[au.d3,apL,jC,jD,hV,hC,hA,h,ae,call4,jI,C.B_b,C.I_i,C.L_l,ah,hk,n1,decide_true,jR,jS,jZ]
  rfl
 ·have hb3:¬((k:Nat):Int)<0:=by omega
  have hD:=Au Cp.e hkl hz.2.2.1
  simp only[h,hb3,decide_false,jS,jR,jY] at hR⊢
  rw[←kH]
  simp only[au,Fl.e,Evn.e_l,jA,jB] at hV hC hA hR⊢
  simp only[au.d3,apL,jC,jD,hV,hC,hA,h,hb3,ae,call4,jI,C.B_b,C.I_i,C.L_l,ah,hk,n1,decide_false,jR,jS,jZ,fI,hD,jW,hR]
theorem Io {e:Evn} (he:e.Sz 1048576) (hk:e.kd=5):au (f.e++e.e)=some (wJ (bif (dG f e).2 then tQ (dG f e).1 else (fl0,3))):=by
 have hV:=cq hz
 have hC:=iJ hz
 have hA:=nJ f e.nm hz.2.2.1
 have hB:=h9 f e.at_ hz.1.1
 have hR:=cq (nk hz hv he)
 have hH:dG f e=bif decide (cIx f e.nm<0)||(!sEq e.at_ (mkS [])&&decide (bIx f e.at_<0)) then (f,false) else (match f.cps[(cIx f e.nm).toNat]? with|some c=>({f with cps:=f.cps.set (cIx f e.nm).toNat {c with at_:=e.at_}},true)|none=>(f,false)):=by
  simp only[dG,hk];rfl
 rw[hH] at hR⊢
 rw[hv] at hV
 have n1:((5:Int)==1)=false∧((5:Int)==2)=false∧((5:Int)==3)=false∧((5:Int)==4)=false∧((5:Int)==5)=true:=⟨rfl,rfl,rfl,rfl,rfl⟩
 rcases qm f e.nm with h|⟨k,hkl,h,-⟩
 ·simp only[h,decide_true,jR,jS,Bool.true_or]
  simp only[au,Fl.e,Evn.e_l,jA,jB] at hV hC hA⊢
  simp only[au.d3,apL,jC,jD,hV,hC,hA,h,ae,call4,jI,C.B_b,C.I_i,C.L_l,ah,hk,n1,decide_true,jR,jS,jZ]
  rfl
 ·have hb3:¬((k:Nat):Int)<0:=by omega
  have g0:=getD_map' Cp.e hkl
  have g2:aK f.cps[k].e 11 [.s e.at_]=({f.cps[k] with at_:=e.at_}:Cp).e:=rfl
  have hst:(f.cps.map Cp.e).set k ({f.cps[k] with at_:=e.at_}:Cp).e=(f.cps.set k {f.cps[k] with at_:=e.at_}).map Cp.e:=(List.map_set).symm
  have hbn:(bs #[]).toList=(mkS []).toList:=rfl
  have hq:(e.at_.toList==(mkS []).toList)=sEq e.at_ (mkS []):=rfl
  simp only[h,hb3,decide_false,Bool.false_or,jY,List.getElem?_eq_getElem hkl] at hR⊢
  simp only[au,Fl.e,Evn.e_l,jA,jB] at hV hC hA hB hR⊢
  simp only[au.d3,apL,jC,jD,hV,hC,hA,hB,h,hb3,ae,call4,jI,C.B_b,C.I_i,C.L_l,C.S_s,ah,hk,n1,hbn,hq,decide_false,jR,jS,jZ,ja,jW,jX,ltL hkl,jY,g0,g2,hst,decide_true]
  cases hs:sEq e.at_ (mkS [])<;>cases hd:decide (bIx f e.at_<0)<;>simp only[hs,hd,jZ,ja,Bool.true_and,Bool.false_and,jR,jS] at hR⊢<;>first|rfl|(rw[←kH];simp only[hR,jI,jC,C.B_b])
theorem HK {e:Evn} (hk:¬e.kd=1∧¬e.kd=2∧¬e.kd=3∧¬e.kd=4∧¬e.kd=5):au (f.e++e.e)=some (wJ (fl0,4)):=by
 have hV:=cq hz
 have hC:=iJ hz
 have n5:(e.kd==1)=false∧(e.kd==2)=false∧(e.kd==3)=false∧(e.kd==4)=false∧(e.kd==5)=false:=by simp only[beq_eq_false_iff_ne];exact hk
 rw[hv] at hV
 simp only[au,Fl.e,Evn.e_l,jA,jB] at hV hC⊢
 simp only[au.d3,apL,jC,jD,hV,hC,ae,call4,jI,C.B_b,C.I_i,ah,n5,jS,jZ]
 rfl
omit hv in
theorem hU {e:Evn} (he:e.Sz 1048576):au (f.e++e.e)=some (wJ (fQ f e)):=by
 unfold fQ
 cases hv:bJ f with
 |false=>
  have hV:=cq hz
  rw[hv] at hV
  simp only[au,Fl.e,Evn.e_l,jA,jB] at hV⊢
  simp only[au.d3,apL,jC,jD,hV,ae,jI,C.B_b,ja,jR]
  rfl
 |true=>
  have hw:∀n:Int,1≤n→n≤5→within n 1 5=true:=fun n h1 h2=>by simp[within,h1,h2]
  by_cases h1:e.kd=1
  ·rw[HE hz hv he h1,h1,show (dG f e).2=true by simp only[dG,h1];rfl,hw 1 (by decide) (by decide)]
   unfold tQ;cases bJ (dG f e).1<;>rfl
  by_cases h2:e.kd=2
  ·rw[Ik hz hv he h2,h2,hw 2 (by decide) (by decide)]
   unfold tQ;cases (dG f e).2<;>cases bJ (dG f e).1<;>rfl
  by_cases h3:e.kd=3
  ·rw[HY hz hv he h3,h3,show (dG f e).2=true by simp only[dG,h3];rfl,hw 3 (by decide) (by decide)]
   unfold tQ;cases bJ (dG f e).1<;>rfl
  by_cases h4:e.kd=4
  ·rw[It hz hv he h4,h4,hw 4 (by decide) (by decide)]
   unfold tQ;cases (dG f e).2<;>cases bJ (dG f e).1<;>rfl
  by_cases h5:e.kd=5
  ·rw[Io hz hv he h5,h5,hw 5 (by decide) (by decide)]
   unfold tQ;cases (dG f e).2<;>cases bJ (dG f e).1<;>rfl
  have n5:(e.kd==1)=false∧(e.kd==2)=false∧(e.kd==3)=false∧(e.kd==4)=false∧(e.kd==5)=false:=by simp only[beq_eq_false_iff_ne];exact ⟨h1,h2,h3,h4,h5⟩
  have hW:within e.kd 1 5=false:=by simp[within];omega
  rw[HK hz hv ⟨h1,h2,h3,h4,h5⟩,show dG f e=(f,true) by simp only[dG,n5,jS],hW,hv]
  rfl
end
end Go.Ev
namespace Go.Ev
theorem yn {f:Fl} (hz:f.Sz 1048576) {e:Evn} (he:e.Sz 1048576):(fQ f e).1.Sz 1048576:=by
 unfold fQ
 cases hv:bJ f with
 |false=>exact DM
 |true=>
  have:=nk hz hv he
  cases (dG f e).2<;>cases bJ (dG f e).1<;>cases within e.kd 1 5<;>first|exact DM|exact this
end Go.Ev
namespace Go.Ev
def Cp.qv (c:Cp) (bs:List (List C)) (p:Int):List C:=[.s c.name,.s c.svc,.i c.rank,.i c.born,.i c.room,.i c.hold,.s c.sel,.i c.apart,.s c.near,.s c.fixed,.s c.at_,.l bs,.i p,.l (c.likes.map Lk.e)]
theorem cv1:bT.d1=bW.d1:=rfl
section
variable {bs:List (List C)} (hb:BY bs) (hl:bs.length≤2000)
include hb hl
theorem Eu {nm sv sel:Str} {rk bn rm hd:Int} {L:List Lk} (d e f g h i j k l m n z:C) (z1:nm.size≤1000) (z2:sv.size≤1000) (z3:sel.size≤1000) (z4:L.length≤20) (z5:∀x,x∈L→x.sel.size≤200) {p:Int} (h0:0≤p) (h1:p≤1125899906842624-100):
  ∃(c:Cp) (p':Int),apn 27 bT.d2 [.s sv,.l bs,.i p,d,e,f,g,h,i,j,k,l,m,n,.s nm,.s sv,.i rk,.i bn,.i rm,.i hd,.s sel,.i 0,.s (Go.Ev.bs #[]),.s (Go.Ev.bs #[]),.s (Go.Ev.bs #[]),z,.l (L.map Lk.e)]=some (.ret (c.qv bs p'))∧c.Sz 1000∧p≤p'∧p'≤p+10:=by
 obtain ⟨x,hx,g1⟩:=aU hb hl h0 (show p≤1125899906842624 by omega) (n:=8) (by omega) (by omega)
 have key:∀(ap:Int) (nr fx:Str) (p':Int),nr.size≤1000→fx.size≤1000→p≤p'→p'≤p+10→∃(c:Cp) (q:Int),some (Out.ret [C.s nm,.s sv,.i rk,.i bn,.i rm,.i hd,.s sel,.i ap,.s nr,.s fx,.s (Go.Ev.bs #[]),.l bs,.i p',.l (L.map Lk.e)])=some (.ret (c.qv bs q))∧c.Sz 1000∧p≤q∧q≤p+10:=fun ap nr fx p' hn hf q1 q2=>
  ⟨⟨nm,sv,rk,bn,rm,hd,sel,L,ap,nr,fx,Go.Ev.bs #[]⟩,p',rfl,⟨z1,z2,z3,hn,hf,by show (Go.Ev.bs #[]).size≤1000;decide,by show L.length≤1000;omega,fun x hx=>Nat.le_trans (z5 x hx) (by decide)⟩,q1,q2⟩
 have e0:(Go.Ev.bs #[]).size≤1000:=by decide
 simp only[apL,jC,jD,bT.d2,g1,call3,jI,C.I_i,C.L_l]
 cases q0:((x:Int)==0) with
 |true=>simp only[jR];exact key 1 _ _ _ e0 e0 (by omega) (by omega)
 |false=>
  cases q1:((x:Int)==1) with
  |true=>simp only[jR,jS];exact key 2 _ _ _ e0 e0 (by omega) (by omega)
  |false=>
   cases q2:((x:Int)==2) with
   |true=>
    obtain ⟨y,hy,g2⟩:=aU hb hl (p:=p+1) (n:=4) (by omega) (by omega) (by omega) (by omega)
    simp only[jR,jS,g2,jI,jC,jD,C.I_i,jX,decide_true]
    rcases y with _|_|_|_|y
    ·exact key 0 (Go.Ev.bs #[119,101,98]) _ _ (by decide) e0 (by omega) (by omega)
    ·exact key 0 (Go.Ev.bs #[100,98]) _ _ (by decide) e0 (by omega) (by omega)
    ·exact key 0 (Go.Ev.bs #[103,111,110,101]) _ _ (by decide) e0 (by omega) (by omega)
    ·exact key 0 sv _ _ z2 e0 (by omega) (by omega)
    ·omega
   |false=>
    cases q3:((x:Int)==3) with
    |true=>
     obtain ⟨y,hy,g2⟩:=aU hb hl (p:=p+1) (n:=3) (by omega) (by omega) (by omega) (by omega)
     simp only[jR,jS,g2,jI,jC,jD,C.I_i]
     cases q4:((y:Int)==0) with
     |true=>
      obtain ⟨w,hw,g3⟩:=aU hb hl (p:=p+1+1) (n:=4) (by omega) (by omega) (by omega) (by omega)
      obtain ⟨s,g4,hs⟩:=vG (n:=w) (by omega)
      have b1:(Go.Ev.bs #[98]).size=1:=rfl
      have c1:1+s.size≤4294967296:=by omega
      simp only[jR,g3,g4,ae,jI,jC,jD,C.S_s,b1,c1,decide_true]
      exact key 0 _ _ _ e0 (by rw[ByteArray.size_append,b1];omega) (by omega) (by omega)
     |false=>simp only[jS];exact key 0 _ _ _ e0 e0 (by omega) (by omega)
    |false=>simp only[jS];exact key 0 _ _ _ e0 e0 (by omega) (by omega)
theorem DE {n:Nat} (hn:n≤900) {p:Int} (h0:0≤p) (h1:p≤1125899906842624-20000):∃(c:Cp) (p':Int),bT [.i n,.l bs,.i p]=some (c.qv bs p')∧c.Sz 1000∧p≤p'∧p'≤p+1000:=by
 obtain ⟨x1,k1,g1⟩:=aU hb hl h0 (show p≤1125899906842624 by omega) (n:=4) (by omega) (by omega)
 obtain ⟨s,g2,hs⟩:=vG (n:=n) (by omega)
 obtain ⟨x3,k3,g3⟩:=aU hb hl (p:=p+1) (n:=6) (by omega) (by omega) (by omega) (by omega)
 obtain ⟨x4,k4,g4⟩:=aU hb hl (p:=p+1+1) (n:=30) (by omega) (by omega) (by omega) (by omega)
 obtain ⟨x5,k5,g5⟩:=aU hb hl (p:=p+1+1+1) (n:=7) (by omega) (by omega) (by omega) (by omega)
 obtain ⟨x6,k6,g6⟩:=aU hb hl (p:=p+1+1+1+1) (n:=8) (by omega) (by omega) (by omega) (by omega)
 obtain ⟨sel,p1,g7,a1,a2,a3⟩:=AZ hb hl (p:=p+1+1+1+1+1) (by omega) (by omega)
 obtain ⟨x8,k8,g8⟩:=aU hb hl (p:=p1) (n:=5) (by omega) (by omega) (by omega) (by omega)
 have w1:w64 ((x8:Int)-2)=(x8:Int)-2:=aZ (by omega) (by omega)
 have hsv:∃sv:Str,((rows [[C.s (Go.Ev.bs #[119,101,98])],[C.s (Go.Ev.bs #[100,98])],[C.s (Go.Ev.bs #[106,111,98])],[C.s (Go.Ev.bs #[99,97,99,104,101])]]).getD (x1:Int).toNat []).getD 0 .nil=.s sv∧sv.size≤10:=by
  rcases x1 with _|_|_|_|x1
  ·exact ⟨_,rfl,by decide⟩
  ·exact ⟨_,rfl,by decide⟩
  ·exact ⟨_,rfl,by decide⟩
  ·exact ⟨_,rfl,by decide⟩
  ·omega
 obtain ⟨sv,v1,v2⟩:=hsv
 have hrk:∃rk:Int,((rows [[C.i 1],[C.i 1],[C.i 5],[C.i 5],[C.i 9],[C.i 50]]).getD (x3:Int).toNat []).getD 0 .nil=.i rk:=by
  rcases x3 with _|_|_|_|_|_|x3
  ·exact ⟨_,rfl⟩
  ·exact ⟨_,rfl⟩
  ·exact ⟨_,rfl⟩
  ·exact ⟨_,rfl⟩
  ·exact ⟨_,rfl⟩
  ·exact ⟨_,rfl⟩
  ·omega
 obtain ⟨rk,r1⟩:=hrk
 have l1:decide ((x1:Int)<((rows [[C.s (Go.Ev.bs #[119,101,98])],[C.s (Go.Ev.bs #[100,98])],[C.s (Go.Ev.bs #[106,111,98])],[C.s (Go.Ev.bs #[99,97,99,104,101])]]).length:Int))=true:=by
  show decide ((x1:Int)<4)=true
  simp;omega
 have l3:decide ((x3:Int)<((rows [[C.i 1],[C.i 1],[C.i 5],[C.i 5],[C.i 9],[C.i 50]]).length:Int))=true:=by
  show decide ((x3:Int)<6)=true
  simp;omega
 have b1:(Go.Ev.bs #[45]).size=1:=rfl
 have b2:(sv++Go.Ev.bs #[45]).size=sv.size+1:=by rw[ByteArray.size_append];rfl
 have b3:((sv++Go.Ev.bs #[45])++s).size=sv.size+1+s.size:=by rw[ByteArray.size_append,b2]
 have c1:sv.size+1≤4294967296:=by omega
 have c2:sv.size+1+s.size≤4294967296:=by omega
 simp only[bT,cv1,bT.d3,apL,jC,jD,g1,g2,g3,g4,g5,g6,g7,g8,call3,ae,jI,C.I_i,jX,decide_true,jR,v1,r1,l1,l3,C.S_s,b1,b2,c1,c2,w1]
 obtain ⟨L,p2,q1,q2,q3,q4,q5⟩:=qj hb hl (.s sv) (.s (Go.Ev.bs #[])) (.s (Go.Ev.bs #[])) (.i 0) (.i 0) (.i 0) (.i 0) (.s (Go.Ev.bs #[])) (.i 0) (.s (Go.Ev.bs #[])) (.s (Go.Ev.bs #[])) (.s (Go.Ev.bs #[])) (.s ((sv++Go.Ev.bs #[45])++s)) (.s sv) (.i rk) (.i x4) (.i (w64 (1+(x5:Int)))) (.i x6) (.s sel) (.i 0) (.s (Go.Ev.bs #[])) (.s (Go.Ev.bs #[])) (.s (Go.Ev.bs #[])) 3 ((x8:Int)-2) (p1+1) [] (by omega) (by omega) (by omega) (by omega) (by omega) (by simp) (fun x hx=>by simp at hx)
 simp only[List.map_nil] at q1
 have q1':=q1
 erw[q1']
 obtain ⟨c,p3,r2,r3,r4,r5⟩:=Eu hb hl (nm:=(sv++Go.Ev.bs #[45])++s) (sv:=sv) (sel:=sel) (rk:=rk) (bn:=x4) (rm:=w64 (1+(x5:Int))) (hd:=x6) (L:=L) (.s (Go.Ev.bs #[])) (.s (Go.Ev.bs #[])) (.i 0) (.i 0) (.i 0) (.i 0) (.s (Go.Ev.bs #[])) (.i 0) (.s (Go.Ev.bs #[])) (.s (Go.Ev.bs #[])) (.s (Go.Ev.bs #[])) (.l ah) (by rw[b3];omega) (by omega) (by omega) q2 q3 (p:=p2) (by omega) (by omega)
 refine ⟨c,p3,?_,r3,by omega,by omega⟩
 simp only[bg]
 erw[r2]
 rfl
end
end Go.Ev
namespace Go.Ev
def Evn.q (e:Evn) (bs:List (List C)) (p:Int):List C:=[.i e.kd,.s e.b.name,.s e.b.zone,.i e.b.room,.i e.b.hold,.b e.b.shut,.s e.c.name,.s e.c.svc,.i e.c.rank,.i e.c.born,.i e.c.room,.i e.c.hold,.s e.c.sel,.i e.c.apart,.s e.c.near,.s e.c.fixed,.s e.c.at_,.s e.nm,.s e.at_,.l bs,.i p,.l (e.b.marks.map sE),.l (e.c.likes.map Lk.e)]
def Evn.o (e:Evn):List C:=[.i e.kd,.s e.b.name,.s e.b.zone,.i e.b.room,.i e.b.hold,.b e.b.shut,.s e.c.name,.s e.c.svc,.i e.c.rank,.i e.c.born,.i e.c.room,.i e.c.hold,.s e.c.sel,.i e.c.apart,.s e.c.near,.s e.c.fixed,.s e.c.at_,.s e.nm,.s e.at_,.l (e.b.marks.map sE),.l (e.c.likes.map Lk.e)]
def b00:Bt:=⟨Go.Ev.bs #[],Go.Ev.bs #[],[],0,0,false⟩
def c00:Cp:=⟨Go.Ev.bs #[],Go.Ev.bs #[],0,0,0,0,Go.Ev.bs #[],[],0,Go.Ev.bs #[],Go.Ev.bs #[],Go.Ev.bs #[]⟩
theorem e00:(Go.Ev.bs #[]).size≤1048576:=by decide
theorem sI:b00.Sz 1048576:=⟨e00,e00,by decide,fun m hm=>by simp[b00] at hm⟩
theorem uU:c00.Sz 1048576:=⟨e00,e00,e00,e00,e00,e00,by decide,fun m hm=>by simp[c00] at hm⟩
def Z8:List C:=[.i 0,.s (Go.Ev.bs #[]),.s (Go.Ev.bs #[]),.i 0,.i 0,.b false,.s (Go.Ev.bs #[]),.s (Go.Ev.bs #[]),.i 0,.i 0,.i 0,.i 0,.s (Go.Ev.bs #[]),.i 0,.s (Go.Ev.bs #[]),.s (Go.Ev.bs #[]),.s (Go.Ev.bs #[]),.s (Go.Ev.bs #[]),.s (Go.Ev.bs #[]),.l ah,.l ah]
section
variable {bs:List (List C)} (hb:BY bs) (hl:bs.length≤2000) {f:Fl} (hz:f.Sz 1048576)
include hb hl hz
theorem l3B {p:Int} (h0:0≤p) (h1:p≤1125899906842624-100):∃(s:Str) (p':Int),gq (f.e++[.l bs,.i p])=some [.s s,.l bs,.i p']∧s.size≤1048576∧p≤p'∧p'≤p+10:=by
 obtain ⟨s,p',g,n,a,b⟩:=Ei hb hl f hz.1.1 h0 h1
 refine ⟨s,p',g,?_,a,b⟩
 rcases n with rfl|rfl|⟨k,hk,rfl⟩
 ·exact e00
 ·decide
 ·exact (hz.1.2 _ (List.getElem_mem hk)).1
theorem l3C {p:Int} (h0:0≤p) (h1:p≤1125899906842624-100):∃(s:Str) (p':Int),iq (f.e++[.l bs,.i p])=some [.s s,.l bs,.i p']∧s.size≤1048576∧p≤p'∧p'≤p+10:=by
 obtain ⟨s,p',g,n,a,b⟩:=Fx hb hl f hz.2.2.1 h0 h1
 refine ⟨s,p',g,?_,a,b⟩
 rcases n with rfl|rfl|⟨k,hk,rfl⟩
 ·exact e00
 ·decide
 ·exact (hz.2.2.2 _ (List.getElem_mem hk)).1
theorem EY (x:Int) {p:Int} (h0:0≤p) (h1:p≤1125899906842624-50000):
  ∃(e:Evn) (p':Int),apn 29 fJ.d1 ([C.i x,.b true,.l bs,.i p]++f.e++Z8)=some (.ret (e.q bs p'))∧e.Sz 1048576∧p≤p'∧p'≤p+2000:=by
 obtain ⟨y,hy,g1⟩:=aU hb hl h0 (show p≤1125899906842624 by omega) (n:=16) (by omega) (by omega)
 obtain ⟨c,p2,g2,z2,a1,a2⟩:=DE hb hl (n:=y) (by omega) (p:=p+1) (by omega) (by omega)
 obtain ⟨w,hw,g3⟩:=aU hb hl (p:=p2) (n:=3) (by omega) (by omega) (by omega) (by omega)
 obtain ⟨s,p3,g4,z4,a3,a4⟩:=l3B hb hl hz (p:=p2+1) (by omega) (by omega)
 simp only[Cp.qv] at g2
 simp only[Fl.e,jA,jB] at g4
 simp only[Z8,Fl.e,jA,jB,apL,jC,jD,fJ.d1,g1,g2,g3,g4,call3,call14,jI,C.B_b,C.I_i,C.L_l,jR]
 cases q:((w:Int)==0) with
 |true=>
  exact ⟨⟨3,b00,{c with at_:=s},Go.Ev.bs #[],Go.Ev.bs #[]⟩,p3,rfl,⟨sI,⟨z2.up.1,z2.up.2.1,z2.up.2.2.1,z2.up.2.2.2.1,z2.up.2.2.2.2.1,z4,z2.up.2.2.2.2.2.2⟩,e00,e00⟩,by omega,by omega⟩
 |false=>
  exact ⟨⟨3,b00,c,Go.Ev.bs #[],Go.Ev.bs #[]⟩,p2+1,rfl,⟨sI,z2.up,e00,e00⟩,by omega,by omega⟩
theorem FY (x:Int) {p:Int} (h0:0≤p) (h1:p≤1125899906842624-50000):
  ∃(e:Evn) (p':Int),apn 29 fJ.d1 ([C.i x,.b false,.l bs,.i p]++f.e++Z8)=some (.ret (e.q bs p'))∧e.Sz 1048576∧p≤p'∧p'≤p+2000:=by
 obtain ⟨s,p2,g2,z2,a1,a2⟩:=l3C hb hl hz h0 (by omega)
 obtain ⟨t,p3,g3,z3,a3,a4⟩:=l3B hb hl hz (p:=p2) (by omega) (by omega)
 simp only[Fl.e,jA,jB] at g2 g3
 simp only[Z8,Fl.e,jA,jB,apL,jC,jD,fJ.d1,g2,g3,call3,jI,C.B_b,C.I_i,C.L_l,jS]
 cases (x==5) with
 |true=>exact ⟨⟨4,b00,c00,s,Go.Ev.bs #[]⟩,p2,rfl,⟨sI,uU,z2,e00⟩,by omega,by omega⟩
 |false=>
  cases (x==6) with
  |true=>exact ⟨⟨5,b00,c00,s,Go.Ev.bs #[]⟩,p2,rfl,⟨sI,uU,z2,e00⟩,by omega,by omega⟩
  |false=>exact ⟨⟨5,b00,c00,s,t⟩,p3,rfl,⟨sI,uU,z2,z3⟩,by omega,by omega⟩
theorem C6 {p:Int} (h0:0≤p) (h1:p≤1125899906842624-60000):
  ∃(e:Evn) (p':Int),fJ (f.e++[.l bs,.i p])=some (e.q bs p')∧e.Sz 1048576∧p≤p'∧p'≤p+3000:=by
 obtain ⟨x,hx,g1⟩:=aU hb hl h0 (show p≤1125899906842624 by omega) (n:=10) (by omega) (by omega)
 obtain ⟨e1,p1,k1,z1,u1,v1⟩:=EY hb hl hz (x:=x) (p:=p+1) (by omega) (by omega)
 obtain ⟨e2,p2,k2,z2,u2,v2⟩:=FY hb hl hz (x:=x) (p:=p+1) (by omega) (by omega)
 obtain ⟨y,hy,g2⟩:=aU hb hl (p:=p+1) (n:=7) (by omega) (by omega) (by omega) (by omega)
 obtain ⟨s,g3,hs⟩:=vG (n:=y) (by omega)
 have b1:(Go.Ev.bs #[98]).size=1:=rfl
 have b2:decide (1+s.size≤4294967296)=true:=by simp;omega
 obtain ⟨b,p3,g4,n4,z4,a1,a2⟩:=zw hb hl (nm:=Go.Ev.bs #[98]++s) (by rw[ByteArray.size_append,b1];omega) (p:=p+1+1) (by omega) (by omega)
 obtain ⟨t,p4,g5,z5,a3,a4⟩:=l3B hb hl hz (p:=p+1) (by omega) (by omega)
 simp only[Fl.e,jA,jB] at g5
 simp only[Z8,Fl.e,jA,jB] at k1 k2
 simp only[fJ,Fl.e,jA,jB]
 simp only[fJ.d2,apL,jC,jD,g1,g2,g3,g4,g5,ae,call3,call8,jI,C.I_i,C.S_s,C.L_l,b1,b2,jR]
 cases q0:((x:Int)==0) with
 |true=>exact ⟨⟨1,b,c00,Go.Ev.bs #[],Go.Ev.bs #[]⟩,p3,rfl,⟨z4.up,uU,e00,e00⟩,by omega,by omega⟩
 |false=>
  cases q1:((x:Int)==1) with
  |true=>exact ⟨⟨2,b00,c00,t,Go.Ev.bs #[]⟩,p4,rfl,⟨sI,uU,z5,e00⟩,by omega,by omega⟩
  |false=>
   have f1:∃(e:Evn) (p':Int),bl (some (Out.ret (e1.q bs p1)))=some (e.q bs p')∧e.Sz 1048576∧p≤p'∧p'≤p+3000:=⟨e1,p1,rfl,z1,by omega,by omega⟩
   have f2:∃(e:Evn) (p':Int),bl (some (Out.ret (e2.q bs p2)))=some (e.q bs p')∧e.Sz 1048576∧p≤p'∧p'≤p+3000:=⟨e2,p2,rfl,z2,by omega,by omega⟩
   cases q2:((x:Int)==2) with
   |true=>simp only[jR,jS,jJ,k1];exact f1
   |false=>
    cases q3:((x:Int)==3) with
    |true=>simp only[jR,jS,jJ,k1];exact f1
    |false=>
     cases q4:((x:Int)==4) with
     |true=>simp only[jR,jS,jJ,k1];exact f1
     |false=>simp only[jR,jS,jJ,k2];exact f2
end
theorem qe {A:List (List C)} (hA:BY A):∃(f:Fl) (e:Evn),dy [.l A]=some (f.e++e.o)∧f.Sz 1048576∧e.Sz 1048576:=by
 obtain ⟨bs,g0,hb,hl⟩:=FN hA
 obtain ⟨f,p1,g1,hz,h2,h3⟩:=EA hb hl (p:=0) (by omega) (by omega)
 obtain ⟨e,p2,g2,he,h4,h5⟩:=C6 hb hl hz (p:=p1) (by omega) (by omega)
 obtain ⟨x,hx,g3⟩:=aU hb hl (p:=p2) (n:=16) (by omega) (by omega) (by omega) (by omega)
 obtain ⟨y,hy,g4⟩:=aU hb hl (p:=p2+1) (n:=3) (by omega) (by omega) (by omega) (by omega)
 have l3:decide ((y:Int)<((rows [[C.i 0],[C.i 6],[C.i (-1)]]).length:Int))=true:=by
  show decide ((y:Int)<3)=true
  simp;omega
 have hk:∃k:Int,((rows [[C.i 0],[C.i 6],[C.i (-1)]]).getD (y:Int).toNat []).getD 0 .nil=.i k:=by
  rcases y with _|_|_|y
  ·exact ⟨_,rfl⟩
  ·exact ⟨_,rfl⟩
  ·exact ⟨_,rfl⟩
  ·omega
 obtain ⟨k,hk⟩:=hk
 simp only[Fl.e,Evn.q,jA,jB] at g1 g2
 simp only[dy,dy.d1,apL,jC,jD,g0,g1,g2,g3,g4,call2,call6,call23,call3,jI,C.I_i,C.L_l,jX,decide_true,jR,l3,hk]
 cases ((x:Int)==0) with
 |true=>exact ⟨f,{e with kd:=k},rfl,hz,he⟩
 |false=>exact ⟨f,e,rfl,hz,he⟩
end Go.Ev
namespace Go.Ev
def UpC (l:List Cp):Prop:=∀(i j:Nat) (hi:i<l.length) (hj:j<l.length),i<j→sLt l[i].name l[j].name=true
theorem DL {f:Fl} (h:bJ f=true):UpC f.cps:=fun i j hi hj hlt=>by
 obtain ⟨d,rfl⟩:∃d,j=i+d+1:=⟨j-i-1,by omega⟩
 exact Ah h d i hj
theorem UpC.ne {l:List Cp} (h:UpC l) {i j:Nat} (hi:i<l.length) (hj:j<l.length) (hn:i≠j):l[i].name≠l[j].name:=fun he=>by
 rcases Nat.lt_or_gt_of_ne hn with h1|h1
 ·have:=h i j hi hj h1;rw[he,uv] at this;cases this
 ·have:=h j i hj hi h1;rw[he,uv] at this;cases this
theorem UpC.oth {l:List Cp} (h:UpC l) {k:Nat} (hk:k<l.length) {nm:Str} (he:l[k].name=nm) (y:Cp):(∃i,∃hi:i<l.length,i≠k∧l[i]=y)↔y∈l∧y.name≠nm:=by
 constructor
 ·rintro ⟨i,hi,hn,rfl⟩
  exact ⟨List.getElem_mem hi,he▸h.ne hi hk hn⟩
 ·rintro ⟨hm,hn⟩
  obtain ⟨i,hi,rfl⟩:=List.getElem_of_mem hm
  exact ⟨i,hi,fun e=>hn (by subst e;exact he),rfl⟩
theorem tp {α:Type} {l:List α} {k:Nat} (hk:k<l.length) (x y:α):y∈l.set k x↔y=x∨∃i,∃hi:i<l.length,i≠k∧l[i]=y:=by
 constructor
 ·intro h
  obtain ⟨i,hi,he⟩:=List.getElem_of_mem h
  rw[List.getElem_set] at he
  split at he
  ·exact .inl he.symm
  ·rename_i hn
   exact .inr ⟨i,by simpa using hi,fun e=>hn e.symm,he⟩
 ·rintro (rfl|⟨i,hi,hn,rfl⟩)
  ·exact List.mem_set hk _
  ·have:(l.set k x)[i]'(by simpa using hi)=l[i]:=by rw[List.getElem_set,if_neg (fun e=>hn e.symm)]
   rw[←this];exact List.getElem_mem _
theorem zN {α:Type} {l:List α} {k:Nat} (hk:k<l.length) (y:α):y∈l.take k++l.drop (k+1)↔∃i,∃hi:i<l.length,i≠k∧l[i]=y:=by
 rw[List.mem_append]
 constructor
 ·rintro (h|h)
  ·obtain ⟨i,hi,he⟩:=List.getElem_of_mem h
   rw[List.length_take] at hi
   rw[List.getElem_take] at he
   exact ⟨i,by omega,by omega,he⟩
  ·obtain ⟨i,hi,he⟩:=List.getElem_of_mem h
   rw[List.length_drop] at hi
   rw[List.getElem_drop] at he
   exact ⟨k+1+i,by omega,by omega,he⟩
 ·rintro ⟨i,hi,hn,rfl⟩
  rcases Nat.lt_or_gt_of_ne hn with h|h
  ·left
   have:(l.take k)[i]'(by rw[List.length_take];omega)=l[i]:=List.getElem_take
   rw[←this];exact List.getElem_mem _
  ·right
   have:(l.drop (k+1))[i-(k+1)]'(by rw[List.length_drop];omega)=l[i]:=by
    rw[List.getElem_drop];congr 1;omega
   rw[←this];exact List.getElem_mem _
theorem E7 {l:List Cp} (h:UpC l) (x y:Cp):y∈j5 Cp.name x l↔y=x∨(y∈l∧y.name≠x.name):=by
 by_cases hq:∃k,∃hk:k<l.length,sEq l[k].name x.name=true
 ·obtain ⟨k,hk,he⟩:=hq
  rw[yC Cp.name x h hk he,tp hk,h.oth hk ((fb _ _).1 he)]
 ·have hn:∀i (hi:i<l.length),sEq l[i].name x.name=false:=fun i hi=>by
   cases hh:sEq l[i].name x.name with
   |false=>rfl
   |true=>exact (hq ⟨i,hi,hh⟩).elim
  have hm:∀z,z∈l→z.name≠x.name:=fun z hz he=>by
   obtain ⟨i,hi,rfl⟩:=List.getElem_of_mem hz
   have:=hn i hi
   rw[he,(fb x.name x.name).2 rfl] at this;cases this
  have hc:y∈j5 Cp.name x l↔y=x∨y∈l:=by
   rcases ye Cp.name x h hn with ⟨-,hp⟩|⟨j,hj,-,hp⟩
   ·rw[hp,List.mem_append,List.mem_singleton,or_comm]
   ·rw[hp,List.mem_append,List.mem_append,List.mem_singleton]
    constructor
    ·rintro ((h|h)|h)
     ·exact .inr (List.mem_of_mem_take h)
     ·exact .inl h
     ·exact .inr (List.mem_of_mem_drop h)
    ·rintro (h|h)
     ·exact .inl (.inr h)
     ·rw[←List.take_append_drop j l,List.mem_append] at h
      exact h.elim (fun h=>.inl (.inl h)) .inr
  rw[hc]
  exact ⟨fun h=>h.elim .inl fun h=>.inr ⟨h,hm y h⟩,fun h=>h.elim .inl fun h=>.inr h.1⟩
def ot (e:Evn) (m:Cp→Prop) (x:Cp):Prop:=
 if e.kd=3 then x=e.c∨(m x∧x.name≠e.c.name) else if e.kd=4 then m x∧x.name≠e.nm else (m x∧x.name≠e.nm)∨∃c,m c∧c.name=e.nm∧x= {c with at_:=e.at_}
def mK (e:Evn):Str:=if e.kd=3 then e.c.name else e.nm
theorem xy {e d:Evn} (h:mK e≠mK d) (m:Cp→Prop) (x:Cp):ot d (ot e m) x→ot e (ot d m) x:=by
 unfold mK at h
 unfold ot
 by_cases e3:e.kd=3<;>by_cases e4:e.kd=4<;>by_cases d3:d.kd=3<;>by_cases d4:d.kd=4<;>simp only[e3,e4,d3,d4,if_true,if_false,ite_true,ite_false] at h⊢<;>first|grind|omega
theorem BL:∀l1 l2:List Cp,l1.Pairwise (fun a b=>sLt a.name b.name=true)→l2.Pairwise (fun a b=>sLt a.name b.name=true)→(∀x,x∈l1↔x∈l2)→l1=l2
 |[],[],_,_,_=>rfl
 |[],y::s,_,_,h=>absurd ((h y).2 (List.mem_cons_self ..)) (by simp)
 |x::r,[],_,_,h=>absurd ((h x).1 (List.mem_cons_self ..)) (by simp)
 |x::r,y::s,h1,h2,h=>by
  obtain ⟨a1,a2⟩:=List.pairwise_cons.1 h1
  obtain ⟨b1,b2⟩:=List.pairwise_cons.1 h2
  have irr:∀ {z w:Cp},sLt z.name w.name=true→z≠w:=fun hh e=>by subst e;rw[uv] at hh;cases hh
  have hxy:x=y:=by
   rcases List.mem_cons.1 ((h x).1 (List.mem_cons_self ..)) with e|e
   ·exact e
   ·rcases List.mem_cons.1 ((h y).2 (List.mem_cons_self ..)) with e'|e'
    ·exact e'.symm
    ·exact absurd rfl (irr (sj (a1 y e') (b1 x e)))
  subst hxy
  rw[BL r s a2 b2 fun z=>⟨fun hz=>?_,fun hz=>?_⟩]
  ·rcases List.mem_cons.1 ((h z).1 (List.mem_cons_of_mem _ hz)) with e|e
   ·exact absurd e.symm (irr (a1 z hz))
   ·exact e
  ·rcases List.mem_cons.1 ((h z).2 (List.mem_cons_of_mem _ hz)) with e|e
   ·exact absurd e.symm (irr (b1 z hz))
   ·exact e
theorem GC {l:List Cp} (h:UpC l):l.Pairwise (fun a b=>sLt a.name b.name=true):=List.pairwise_iff_getElem.2 fun i j hi hj hlt=>h i j hi hj hlt
theorem GJ {f g:Fl} {e:Evn} (h:fQ f e=(g,0)):bJ f=true∧bJ g=true∧dG f e=(g,true)∧within e.kd 1 5=true:=by
 unfold fQ at h
 cases h1:bJ f<;>cases h2:(dG f e).2<;>cases h3:bJ (dG f e).1<;>cases h4:within e.kd 1 5<;>simp only[h1,h2,h3,h4,jZ,ja,Bool.true_and,Bool.false_and,Bool.and_true,Bool.and_false,jR,jS,Prod.mk.injEq] at h<;>first|(exfalso;revert h;decide)|skip
 all_goals first|(obtain ⟨-,h⟩:=h;exact absurd h (by decide))|skip
 obtain ⟨rfl,-⟩:=h
 exact ⟨rfl,h3,Prod.ext rfl h2,rfl⟩
theorem um {f g:Fl} {e:Evn} (h:fQ f e=(g,0)) (hk:3≤e.kd):(∀x,x∈g.cps↔ot e (fun y=>y∈f.cps) x)∧g.pack=f.pack∧g.bts=f.bts∧g.svs=f.svs:=by
 obtain ⟨hv,-,hs,hw⟩:=GJ h
 have up:=DL hv
 have hk5:e.kd≤5:=by simp only[within,Bool.and_eq_true,decide_eq_true_eq] at hw;exact hw.2
 unfold dG at hs
 have k1:(e.kd==1)=false:=by rw[beq_eq_false_iff_ne];omega
 have k2:(e.kd==2)=false:=by rw[beq_eq_false_iff_ne];omega
 simp only[k1,k2,jS] at hs
 by_cases e3:e.kd=3
 ·have k3:(e.kd==3)=true:=by rw[e3];rfl
  simp only[k3,jR,Prod.mk.injEq,and_true] at hs
  subst hs
  refine ⟨fun x=>?_,rfl,rfl,rfl⟩
  simp only[ot,e3,if_true]
  exact E7 up e.c x
 have k3:(e.kd==3)=false:=by rw[beq_eq_false_iff_ne];omega
 simp only[k3,jS] at hs
 rcases qm f e.nm with hc|⟨k,hkl,hc,hq⟩
 ·exfalso
  by_cases e4:e.kd=4
  ·have k4:(e.kd==4)=true:=by rw[e4];rfl
   simp only[k4,hc,decide_true,jR,Prod.mk.injEq] at hs
   exact absurd hs.2 (by decide)
  ·have k4:(e.kd==4)=false:=by rw[beq_eq_false_iff_ne];omega
   have k5:(e.kd==5)=true:=by rw[beq_iff_eq];omega
   simp only[k4,k5,hc,decide_true,Bool.true_or,jR,jS,Prod.mk.injEq] at hs
   exact absurd hs.2 (by decide)
 have hn:=(fb _ _).1 hq
 have hc3:¬((k:Nat):Int)<0:=by omega
 by_cases e4:e.kd=4
 ·have k4:(e.kd==4)=true:=by rw[e4];rfl
  simp only[k4,hc,hc3,decide_false,jR,jS,Prod.mk.injEq,and_true,jY] at hs
  subst hs
  refine ⟨fun x=>?_,rfl,rfl,rfl⟩
  simp only[ot,e4,if_true,show ¬(4:Int)=3 by decide,if_false]
  rw[zN hkl,up.oth hkl hn]
 ·have k4:(e.kd==4)=false:=by rw[beq_eq_false_iff_ne];omega
  have k5:(e.kd==5)=true:=by rw[beq_iff_eq];omega
  simp only[k4,k5,hc,hc3,decide_false,Bool.false_or,jR,jS,jY,List.getElem?_eq_getElem hkl] at hs
  cases hb:(!sEq e.at_ (mkS [])&&decide (bIx f e.at_<0)) with
  |true=>rw[hb,jR,Prod.mk.injEq] at hs;exact absurd hs.2 (by decide)
  |false=>
   rw[hb,jS,Prod.mk.injEq] at hs
   obtain ⟨rfl,-⟩:=hs
   refine ⟨fun x=>?_,rfl,rfl,rfl⟩
   simp only[ot,e3,e4,if_false]
   rw[tp hkl,up.oth hkl hn,or_comm]
   constructor
   ·rintro (h|h)
    ·exact .inl h
    ·exact .inr ⟨f.cps[k],List.getElem_mem hkl,hn,h⟩
   ·rintro (h|⟨c,hm,hcn,rfl⟩)
    ·exact .inl h
    ·right
     obtain ⟨i,hi,rfl⟩:=List.getElem_of_mem hm
     have:i=k:=by
      by_cases hh:i=k
      ·exact hh
      ·exact absurd (hcn.trans hn.symm) (up.ne hi hkl hh)
     subst this;rfl
theorem DP {f a b x y:Fl} {e d:Evn} (h1:fQ f e=(a,0)) (h2:fQ a d=(b,0)) (h3:fQ f d=(x,0)) (h4:fQ x e=(y,0)) (he:3≤e.kd) (hd:3≤d.kd) (hs:mK e≠mK d):b=y:=by
 obtain ⟨m1,p1,q1,r1⟩:=um h1 he
 obtain ⟨m2,p2,q2,r2⟩:=um h2 hd
 obtain ⟨m3,p3,q3,r3⟩:=um h3 hd
 obtain ⟨m4,p4,q4,r4⟩:=um h4 he
 have f1:(fun z=>z∈a.cps)=ot e (fun z=>z∈f.cps):=funext fun z=>propext (m1 z)
 have f3:(fun z=>z∈x.cps)=ot d (fun z=>z∈f.cps):=funext fun z=>propext (m3 z)
 rw[f1] at m2
 rw[f3] at m4
 have hc:b.cps=y.cps:=BL _ _ (GC (DL (GJ h2).2.1)) (GC (DL (GJ h4).2.1)) fun z=>
  (m2 z).trans (Iff.trans ⟨xy hs _ z,xy (fun e=>hs e.symm) _ z⟩ (m4 z).symm)
 obtain ⟨bp,bb,bs,bc⟩:=b
 obtain ⟨yp,yb,ys,yc⟩:=y
 simp only at hc p2 q2 r2 p4 q4 r4
 subst hc
 rw[p2,p1,q2,q1,r2,r1,p4,p3,q4,q3,r4,r3]
theorem qV (f:Fl) (e:Evn):0≤(fQ f e).2∧(fQ f e).2≤4:=by
 unfold fQ
 cases bJ f<;>cases (dG f e).2<;>cases bJ (dG f e).1<;>cases within e.kd 1 5<;>simp
end Go.Ev
namespace Go.Ev
theorem oA (e:Evn):fU e.e=some [.s (mK e)]:=by
 simp only[fU,fU.d1,Evn.e_l,apL,jC,jD,C.I_i,mK]
 by_cases h:e.kd=3
 ·simp only[h,if_true,show ((3:Int)==3)=true from rfl,jR,jV]
 ·simp only[h,if_false,show (e.kd==3)=false from beq_eq_false_iff_ne.2 h,jS,jV]
theorem rG {A B:List (List C)} (hA:BY A) (hB:BY B):eV [.l A,.l B]=some [.b true]:=by
 simp only[eV,eV.d1,apL,jC,jD,C.L_l]
 by_cases la:(A.length:Int)>1048576
 ·simp only[la,decide_true,jZ,jS,jV]
 by_cases lb:(B.length:Int)>1048576
 ·simp only[la,lb,decide_true,decide_false,ja,jR,jV]
 obtain ⟨f,e,g1,hz,he⟩:=qe hA
 obtain ⟨f2,d,g2,-,hd⟩:=qe hB
 have i1:=hU hz he
 have s1:=sb hz he
 have z1:=yn hz he
 have z3:=yn hz hd
 have i3:=hU hz hd
 have i2:=hU z1 hd
 have i4:=hU z3 he
 have z2:=yn z1 hd
 have w1:=rL z1
 have w2:=rL z2
 have k1:=qV f e
 have k3:=qV f d
 have k2:=qV (fQ f e).1 d
 have k4:=qV (fQ f d).1 e
 have u1:=oA e
 have u2:=oA d
 have key:(fQ f e).2+(fQ (fQ f e).1 d).2+(fQ f d).2+(fQ (fQ f d).1 e).2=0→3≤e.kd→3≤d.kd→mK e≠mK d→(fQ (fQ f e).1 d).1=(fQ (fQ f d).1 e).1:=fun h a b c=>
  DP (f:=f) (Prod.ext rfl (by show (fQ f e).2=0;omega)) (Prod.ext rfl (by show (fQ (fQ f e).1 d).2=0;omega)) (Prod.ext rfl (by show (fQ f d).2=0;omega)) (Prod.ext rfl (by show (fQ (fQ f d).1 e).2=0;omega)) a b c
 generalize fQ (fQ f d).1 e=r4 at i4 k4 key
 generalize fQ (fQ f e).1 d=r2 at i2 z2 w2 k2 key
 generalize fQ f d=r3 at i3 z3 k3 i4 key
 generalize fQ f e=r1 at i1 s1 z1 w1 k1 i2 key
 have e1:w64 (r1.2+r2.2)=r1.2+r2.2:=aZ (by omega) (by omega)
 have e2:w64 (r1.2+r2.2+r3.2)=r1.2+r2.2+r3.2:=aZ (by omega) (by omega)
 have e3:w64 (r1.2+r2.2+r3.2+r4.2)=r1.2+r2.2+r3.2+r4.2:=aZ (by omega) (by omega)
 simp only[Fl.e,Evn.e_l,Evn.o,wJ,jA,jB] at g1 g2 i1 s1 i2 i3 i4 w1 w2 u1 u2
 simp only[la,lb,decide_false,ja,jR,jS,g1,g2,jI,jC,jD,C.L_l,C.I_i,C.B_b,C.S_s,i1,s1,i2,i3,i4,w1,u1,u2,call5,ae,e1,e2,e3,bne_self_eq_false,jZ]
 by_cases hs:r1.2+r2.2+r3.2+r4.2=0
 ·by_cases a:e.kd<3
  ·simp only[hs,a,bne_self_eq_false,ja,jZ,decide_true,jR,jS,jV]
  by_cases b:d.kd<3
  ·simp only[hs,a,b,bne_self_eq_false,ja,jZ,decide_true,decide_false,jR,jS,jV]
  cases c:((mK e).toList==(mK d).toList) with
  |true=>simp only[hs,a,b,bne_self_eq_false,ja,decide_false,jR,jV]
  |false=>
   have hne:mK e≠mK d:=fun h=>by rw[h] at c;simp at c
   have:=key hs (by omega) (by omega) hne
   rw[←this]
   simp only[hs,a,b,bne_self_eq_false,ja,decide_false,jR,jS,w2,ae,jI,jC,C.B_b,jV]
 ·have:(r1.2+r2.2+r3.2+r4.2 !=0)=true:=bne_iff_ne.2 hs
  simp only[this,jZ,jS,jV]
end Go.Ev
namespace Go.Ev
open Go.RowKit
def bE (n:Int):List C:=[.i n]
def qR (k:IntKind) (w:World) (a:Option Addr) (len cap:Nat) (zs:List Int):Prop:=
 (a=none∧len=0∧cap=0∧zs=[])∨
 ∃x,a=some x∧len≤cap∧cap≤maxLen∧zs.length=cap∧(∀i,i<zs.length→w.cell? (x.add i)=some (.int k (zs.getD i 0)))∧∀n∈zs,(Lit.int k n).wf=true
theorem BC {w:World} {a:Addr} {v:Value} (h:w.cell? a=some v):a.block<w.heap.size∧a.spot=none:=by
 simp only[World.cell?] at h
 split at h
 ·rename_i c _ _ hb
  refine ⟨?_,?_⟩
  ·exact (Array.getElem?_eq_some_iff.1 hb).1
  ·split at h
   ·simp at h
   ·rename_i hs;simpa using hs
 ·simp at h
theorem uA {T:Tys} {F:Nat→Prop} {w:World} {a:Option Addr} {len cap:Nat} {zs:List Int} {t:TypeId} {d:TD} (hd:aV T t=some d) (hcts:d.cts=[.int .u8]) (hF:∀k,k<w.heap.size→F k) (h:qR .u8 w a len cap zs):
  bX T F w (.sl t) (.l ((zs.take len).map bE)) (.slice a len cap):=by
 rcases h with ⟨rfl,rfl,rfl,rfl⟩|⟨x,rfl,hl,hm,hz,hc,hw⟩
 ·exact .sl0 t none 0
 ·rcases Nat.eq_zero_or_pos len with h0|h0
  ·subst h0
   rw[List.take_zero,List.map_nil]
   exact .sl0 t (some x) cap
  ·have hc0:=hc 0 (by omega)
   have hx:=BC hc0
   rw[Addr.add,if_pos rfl] at hx
   obtain ⟨g,o,sp⟩:=x
   obtain ⟨hg,hsp⟩:=hx
   simp only at hsp;subst hsp
   have hlen:((zs.take len).map bE).length=len:=by simp;omega
   have key:=bX.sl (T:=T) (F:=F) (w:=w) t d ((zs.take len).map bE) g o cap (fun i _=>.int .u8 (zs.getD i 0)) hd (hF _ hg) (by omega)
    (fun i cs hi=>by
     simp only[List.getElem?_map,Option.map_eq_some_iff] at hi
     obtain ⟨n,_,rfl⟩:=hi
     rw[hcts];rfl)
    (fun i cs j c hi hj=>by
     have hil:i<len:=by
      have:=(List.getElem?_eq_some_iff.1 hi).1
      omega
     simp only[List.getElem?_map,Option.map_eq_some_iff] at hi
     obtain ⟨n,hn,rfl⟩:=hi
     have hj0:j=0:=by
      have:=(List.getElem?_eq_some_iff.1 hj).1
      simp only[bE,List.length_cons,List.length_nil] at this;omega
     subst hj0
     have h1:=hc i (by omega)
     rw[hcts]
     have ha:Addr.add ⟨g,o,none⟩ i=⟨g,o+(i*[CT.int .u8].length+0),none⟩:=by
      rw[Addr.add];split
      ·rename_i h;subst h;simp
      ·simp
     rw[←ha];exact h1)
    (fun i cs j c t' hi hj ht=>by
     have hil:i<len:=by
      have:=(List.getElem?_eq_some_iff.1 hi).1
      omega
     simp only[List.getElem?_map,Option.map_eq_some_iff] at hi
     obtain ⟨n,hn,rfl⟩:=hi
     have hj0:j=0:=by
      have:=(List.getElem?_eq_some_iff.1 hj).1
      simp only[bE,List.length_cons,List.length_nil] at this;omega
     subst hj0
     rw[hcts] at ht
     simp only[List.getElem?_cons_zero,Option.some.injEq] at ht
     subst ht
     simp only[bE,List.getElem?_cons_zero,Option.some.injEq] at hj
     subst hj
     rw[List.getElem?_take,if_pos hil] at hn
     rw[List.getD_eq_getElem?_getD,hn]
     exact .int .u8 n)
   rw[hlen] at key
   exact key
theorem Fz {n:Int} (h:(Lit.int .u8 n).wf=true):0≤n∧n≤255:=by
 simp only[Lit.wf,Bool.and_eq_true,decide_eq_true_eq] at h
 exact h
theorem qR.bytes {w:World} {a:Option Addr} {len cap:Nat} {zs:List Int} (h:qR .u8 w a len cap zs):∀n,n∈zs.take len→0≤n∧n≤255:=by
 intro n hn
 have hn':=List.mem_of_mem_take hn
 rcases h with ⟨_,_,_,rfl⟩|⟨x,_,_,_,_,_,hw⟩
 ·simp at hn'
 ·exact Fz (hw n hn')
theorem Cl {zs:List Int} (h:∀n,n∈zs→0≤n∧n≤255):BY (zs.map bE):=fun r hr=>by
 obtain ⟨n,hn,rfl⟩:=List.mem_map.1 hr
 exact ⟨n,rfl,h n hn⟩
end Go.Ev
