/- Proved here: the law FnExactPilotRightCard of the given program answers true at every input, and leaves the input as it was; no condition. This text: lemmas on the way (an evaluator of the program's code, sound once for all; the functions it prints; plain proofs on these). -/
import Derived.Test.YthiadpcadjhgpaaGreatDoorP3
set_option linter.all false
set_option autoImplicit false
set_option maxRecDepth 8000
namespace Go.Ev
def zoneOf (f:Fl) (nm:Str):Str:=if bIx f nm<0 then mkS [] else match f.bts[(bIx f nm).toNat]? with
 |some b=>b.zone
 |none=>mkS []
theorem bIx_at (f:Fl) (nm:Str):bIx f nm<0∨∃k,∃h:k<f.bts.length,bIx f nm=(k:Nat)∧sEq f.bts[k].name nm=true:=by
 rcases findIx_at (fun x:Bt=>sEq x.name nm) f.bts 0 with h|⟨k,hk,h1,h2⟩
 ·exact .inl h
 ·exact .inr ⟨k,hk,by rw[←Nat.zero_add k];exact h1,h2⟩
theorem s_l3ZoneOf_eq (f:Fl) (nm:Str) (hz:f.Sz 1048576):s_l3ZoneOf (f.e++[.s nm])=some [.s (zoneOf f nm)]:=by
 have hb:=s_l2Berth_eq f nm hz.1.1
 simp only[Fl.e,jA,jB] at hb
 simp only[s_l3ZoneOf,s_l3ZoneOf.d1,Fl.e,jA,jB,apL,jC,jD,hb,call1,jI,C.I_i,C.L_l,jW,zoneOf]
 rcases bIx_at f nm with h|⟨k,hk,h1,_⟩
 ·simp[h,bs_nil]
 ·have e5:¬((k:Int)<0):=by omega
  have e6:((k:Int)<(f.bts.length:Int)):=by omega
  have hg:f.bts[k].e.getD 1 .nil=.s f.bts[k].zone:=rfl
  simp only[h1,e5,e6,decide_true,decide_false,jR,jS,jX,jY,getD_map' Bt.e hk,hg,if_false,List.getElem?_eq_getElem hk,jV]
theorem i_pZone_eq (f:Fl) (nm:Str) (hz:f.Sz 1048576):i_pZone (f.e++[.s nm])=some [.s (zoneOf f nm)]:=by
 have hb:=i_pBerthAt_eq f nm hz.1.1
 simp only[Fl.e,jA,jB] at hb
 simp only[i_pZone,i_pZone.d1,Fl.e,jA,jB,apL,jC,jD,hb,call1,jI,C.I_i,C.L_l,jW,zoneOf]
 rcases bIx_at f nm with h|⟨k,hk,h1,_⟩
 ·have e:¬(bIx f nm≥0):=by omega
  simp[h,e,bs_nil]
 ·have e5:¬((k:Int)<0):=by omega
  have e7:((k:Int)≥0):=by omega
  have e6:((k:Int)<(f.bts.length:Int)):=by omega
  have hg:f.bts[k].e.getD 1 .nil=.s f.bts[k].zone:=rfl
  simp only[h1,e5,e6,e7,decide_true,jR,jX,jY,getD_map' Bt.e hk,hg,if_false,List.getElem?_eq_getElem hk,jV]
def oth (c x:Cp):Bool:=!sEq x.name c.name&&!sEq x.at_ (mkS [])
section
variable {f:Fl} (hz:f.Sz 1048576) {c:Cp} (hc:c.Sz 1048576) {b:Bt} (hb:b.Sz 1048576) (hbo:berthOk b=true)
include hz hc hb hbo
end
end Go.Ev
namespace Go.Ev
theorem valid_bts {f:Fl} (h:validF f=true):∀b,b∈f.bts→berthOk b=true:=by
 intro b hb
 obtain ⟨i,hi,rfl⟩:=List.getElem_of_mem hb
 simp only[validF,Bool.and_eq_true] at h
 have:=(allFrom_iff _ _ _).1 h.2.2.2.2.2.1 i (Nat.zero_le _) (by omega)
 simp only[btA,List.getElem?_eq_getElem hi,Bool.and_eq_true] at this
 exact this.1
theorem valid_cps {f:Fl} (h:validF f=true):∀c,c∈f.cps→copyOk c=true:=by
 intro b hb
 obtain ⟨i,hi,rfl⟩:=List.getElem_of_mem hb
 simp only[validF,Bool.and_eq_true] at h
 have:=(allFrom_iff _ _ _).1 h.2.2.2.2.1 i (Nat.zero_le _) (by omega)
 simp only[cpA,List.getElem?_eq_getElem hi,Bool.and_eq_true] at this
 exact this.1
section
variable {f:Fl} (hz:f.Sz 1048576) {c:Cp} (hc:c.Sz 1048576) {b:Bt} (hb:b.Sz 1048576) (hbo:berthOk b=true)
include hz hc hb hbo
end
section
variable {f:Fl} (hz:f.Sz 1048576) (cn bn_:Str)
include hz
end
end Go.Ev
namespace Go.Ev
def at_P {α:Type} (p:α→Bool) (l:List α) (j:Nat):Bool:=match l[j]? with|some x=>p x|none=>false
theorem at_P_lt {α:Type} (p:α→Bool) {l:List α} {j:Nat} (h:j<l.length):at_P p l j=p l[j]:=by simp[at_P,h]
theorem any_P {α:Type} (p:α→Bool) (l:List α):allFrom (fun j=>!at_P p l j) 0 l.length=!l.any p:=by
 rw[←Bool.not_not (b:=allFrom _ _ _)]
 congr 1
 rw[Bool.eq_iff_iff,any_from,List.any_eq_true]
 constructor
 ·rintro ⟨j,_,h1,h2⟩
  have hj:j<l.length:=by omega
  rw[at_P_lt p hj] at h2
  exact ⟨_,List.getElem_mem hj,h2⟩
 ·rintro ⟨x,hx,h⟩
  obtain ⟨j,hj,rfl⟩:=List.getElem_of_mem hx
  exact ⟨j,Nat.zero_le _,by omega,by rw[at_P_lt p hj];exact h⟩
def anyN {α:Type} (p:α→Bool) (l:List α) (i:Nat):Bool:=(l.take i).any p
theorem anyN_succ {α:Type} (p:α→Bool) {l:List α} {i:Nat} (h:i<l.length):anyN p l (i+1)=(anyN p l i||p l[i]):=by
 unfold anyN
 rw[List.take_succ_eq_append_getElem h,List.any_append]
 simp only[List.any_cons,List.any_nil,Bool.or_false]
theorem anyN_all {α:Type} (p:α→Bool) (l:List α):anyN p l l.length=l.any p:=by simp[anyN]
def cntN {α:Type} (p:α→Bool) (l:List α) (i:Nat):Nat:=(l.take i).countP p
theorem cntN_succ {α:Type} (p:α→Bool) {l:List α} {i:Nat} (h:i<l.length):cntN p l (i+1)=cntN p l i+(bif p l[i] then 1 else 0):=by
 simp only[cntN,List.take_succ_eq_append_getElem h,List.countP_append,List.countP_cons,List.countP_nil]
 cases p l[i]<;>simp
theorem cntN_le {α:Type} (p:α→Bool) (l:List α) (i:Nat):cntN p l i≤i:=by
 have:=List.countP_le_length (p:=p) (l:=l.take i)
 simp only[cntN,List.length_take] at*
 omega
def sumN {α:Type} (p:α→Bool) (g:α→Int) (l:List α) (i:Nat):Int:=((l.take i).map fun x=>bif p x then g x else 0).sum
theorem sumN_succ {α:Type} (p:α→Bool) (g:α→Int) {l:List α} {i:Nat} (h:i<l.length):sumN p g l (i+1)=sumN p g l i+(bif p l[i] then g l[i] else 0):=by
 unfold sumN
 rw[List.take_succ_eq_append_getElem h,List.map_append,List.sum_append]
 simp only[List.map_cons,List.map_nil,List.sum_cons,List.sum_nil,Int.add_zero]
theorem sumN_le {α:Type} (p:α→Bool) (g:α→Int) {l:List α} (hl:∀x,x∈l→0≤g x∧g x≤1000):∀i,i≤l.length→0≤sumN p g l i∧sumN p g l i≤1000*i
 |0,_=>by simp[sumN]
 |i+1,h=>by
  have ih:=sumN_le p g hl i (by omega)
  have h2:=hl _ (List.getElem_mem (show i<l.length by omega))
  rw[sumN_succ p g (by omega)]
  cases p l[i]<;>simp only[jR,jS]<;>omega
def togP (f:Fl) (c:Cp) (b:Bt) (x:Cp):Bool:=oth c x&&(sEq x.svc c.svc&&(sEq x.at_ b.name&&(x.apart !=0||c.apart !=0)||sEq (zoneOf f x.at_) b.zone&&(x.apart==2||c.apart==2)))
def nearP (f:Fl) (c:Cp) (b:Bt) (x:Cp):Bool:=oth c x&&(sEq x.svc c.near&&sEq (zoneOf f x.at_) b.zone)
def svcP (c:Cp) (s:Str) (x:Cp):Bool:=oth c x&&sEq x.svc s
def farB (f:Fl) (c:Cp) (b:Bt):Bool:=!sEq c.near (mkS [])&&(!f.cps.any (nearP f c b)&&(f.cps.any (svcP c c.near)||!sEq c.near c.svc))
def onP (c:Cp) (b:Bt) (x:Cp):Bool:=oth c x&&sEq x.at_ b.name
def fitsN (f:Fl) (c:Cp) (b:Bt) (o:Bool):Nat:=
 bif b.shut&&!o then 1 else bif !sEq c.fixed (mkS [])&&!sEq c.fixed b.name then 2 else bif !selM c.sel b then 3 else bif f.cps.any (togP f c b) then 4 else bif farB f c b then 5 else
 bif decide (10≤cntN (onP c b) f.cps f.cps.length) then 6 else bif decide (b.room<sumN (onP c b) Cp.room f.cps f.cps.length+c.room) then 7 else bif decide (b.hold<sumN (onP c b) Cp.hold f.cps f.cps.length+c.hold) then 8 else 0
theorem name_ne {b:Bt} (h:berthOk b=true) (s:Str) (hs:sEq s b.name=true):sEq s (mkS [])=false:=by
 cases h0:sEq s (mkS []) with
 |false=>rfl
 |true=>
  have e1:s=b.name:=by rw[sEq_iff] at hs;exact hs
  have e2:s=mkS []:=by rw[sEq_iff] at h0;exact h0
  rw[e2] at e1
  simp only[berthOk,Bool.and_eq_true] at h
  have h:=h.1
  rw[←e1] at h
  exact absurd h (by decide)
theorem cp_room {f:Fl} (h:validF f=true):∀x,x∈f.cps→0≤x.room∧x.room≤1000:=by
 intro x hx
 have:=valid_cps h x hx
 simp only[copyOk,within,Bool.and_eq_true,decide_eq_true_eq] at this
 exact this.2.2.2.1
theorem cp_hold {f:Fl} (h:validF f=true):∀x,x∈f.cps→0≤x.hold∧x.hold≤1000:=by
 intro x hx
 have:=valid_cps h x hx
 simp only[copyOk,within,Bool.and_eq_true,decide_eq_true_eq] at this
 exact this.2.2.2.2.1
theorem cp_apart {f:Fl} (h:validF f=true):∀x,x∈f.cps→0≤x.apart∧x.apart≤2:=by
 intro x hx
 have:=valid_cps h x hx
 simp only[copyOk,within,Bool.and_eq_true,decide_eq_true_eq] at this
 exact this.2.2.2.2.2.2.1
theorem cps_60 {f:Fl} (h:validF f=true):f.cps.length≤60:=by
 simp only[validF,Bool.and_eq_true,decide_eq_true_eq] at h
 exact h.2.2.1
end Go.Ev
namespace Go.Ev
section
variable {f:Fl} (hz:f.Sz 1048576) {c:Cp} (hc:c.Sz 1048576) {b:Bt} (hb:b.Sz 1048576) (hbo:berthOk b=true)
include hz hc hb hbo
theorem s_l3Together_eq:s_l3Together (f.e++c.e++b.e)=some [.b (f.cps.any (togP f c b))]:=by
 have hlc:f.cps.length<big:=by have:=hz.2.2.1;simp only[big];omega
 have h:=chk_loop (body:=ap23 s_l3Together.d3) (S:=fun i=>[C.i (i:Nat)]++f.e++c.e++b.e) (p:=fun j=>!at_P (togP f c b) f.cps j) (n:=f.cps.length) (b:=0) (ys:=[]) (r:=[.b true])
  (fun i hi=>by
   have e3:((i:Int)<(f.cps.length:Int)):=by omega
   have hzo:=s_l3ZoneOf_eq f f.cps[i].at_ hz
   simp only[Fl.e,jA,jB] at hzo
   have q1:(f.cps[i].name.toList==c.name.toList)=sEq f.cps[i].name c.name:=rfl
   have q2:(f.cps[i].at_.toList==(bs #[]).toList)=sEq f.cps[i].at_ (mkS []):=rfl
   have q3:(f.cps[i].at_.toList==b.name.toList)=sEq f.cps[i].at_ b.name:=rfl
   have q4:(f.cps[i].svc.toList==c.svc.toList)=sEq f.cps[i].svc c.svc:=rfl
   have q5:((zoneOf f f.cps[i].at_).toList==b.zone.toList)=sEq (zoneOf f f.cps[i].at_) b.zone:=rfl
   simp only[at_P_lt _ hi,togP,oth]
   simp only[Fl.e,Cp.e,Bt.e,jA,jB,apL,jC,jD,s_l3Together.d3,C.I_i,C.L_l,C.S_s,jW,jY,getD_map' Cp.e hi,e3,decide_true,jR,jX]
   simp only[Cp.e,jC,jD,C.S_s,C.I_i,q1,q2,q3,q4]
   cases sEq f.cps[i].name c.name with
   |true=>simp[s_l3Together.d2,w1 hi hlc]
   |false=>
    cases sEq f.cps[i].svc c.svc with
    |false=>simp[s_l3Together.d2,w1 hi hlc]
    |true=>
     cases sEq f.cps[i].at_ (mkS []) with
     |true=>simp[s_l3Together.d2,w1 hi hlc]
     |false=>
      cases h3:sEq f.cps[i].at_ b.name<;>cases h4:f.cps[i].apart !=0<;>cases h5:c.apart !=0<;>cases h6:sEq (zoneOf f f.cps[i].at_) b.zone<;>cases h7:f.cps[i].apart==2<;>cases h8:c.apart==2<;>
       simp only[ja,jZ,jR,jS,Bool.true_and,Bool.false_and,Bool.and_true,Bool.and_false,Bool.or_true,Bool.or_false,Bool.false_or,Bool.true_or,jJ,bindNrm_ret,bindBlk_ret,jC,jD,s_l3Together.d1,C.S_s,C.I_i,q5,h6,h7,h8,hzo,call1,jI,bindBlk_self,apL,s_l3Together.d2,w1 hi hlc])
  (by simp[s_l3Together.d3,Fl.e,Cp.e,Bt.e]) f.cps.length 0 rfl
 simp only[Fl.e,Cp.e,Bt.e,jA,jB,Int.natCast_zero,any_P] at h
 simp only[s_l3Together,s_l3Together.d5,Fl.e,Cp.e,Bt.e,jA,jB,apL,jC,jD]
 rw[h]
 cases f.cps.any (togP f c b)<;>simp[s_l3Together.d4]
theorem s_l3Far_eq:s_l3Far (f.e++c.e++b.e)=some [.b (farB f c b)]:=by
 have hlc:f.cps.length<big:=by have:=hz.2.2.1;simp only[big];omega
 have h:=chk_loop (body:=ap24 s_l3Far.d2) (S:=fun i=>[C.b (anyN (svcP c c.near) f.cps i),C.i (i:Nat)]++f.e++c.e++b.e) (p:=fun j=>!at_P (nearP f c b) f.cps j) (n:=f.cps.length) (b:=0) (ys:=.b (anyN (svcP c c.near) f.cps f.cps.length)::c.e) (r:=[.b false])
  (fun i hi=>by
   have e3:((i:Int)<(f.cps.length:Int)):=by omega
   have hzo:=s_l3ZoneOf_eq f f.cps[i].at_ hz
   simp only[Fl.e,jA,jB] at hzo
   have q1:(f.cps[i].name.toList==c.name.toList)=sEq f.cps[i].name c.name:=rfl
   have q2:(f.cps[i].at_.toList==(bs #[]).toList)=sEq f.cps[i].at_ (mkS []):=rfl
   have q4:(f.cps[i].svc.toList==c.near.toList)=sEq f.cps[i].svc c.near:=rfl
   have q5:((zoneOf f f.cps[i].at_).toList==b.zone.toList)=sEq (zoneOf f f.cps[i].at_) b.zone:=rfl
   simp only[at_P_lt _ hi,nearP,oth,anyN_succ _ hi]
   generalize anyN (svcP c c.near) f.cps i=q
   simp only[Fl.e,Cp.e,Bt.e,jA,jB,apL,jC,jD,s_l3Far.d2,C.I_i,C.L_l,C.S_s,jW,jY,getD_map' Cp.e hi,e3,decide_true,jR,jX,svcP,oth]
   simp only[Cp.e,jC,jD,C.S_s,C.I_i,q1,q2,q4]
   cases sEq f.cps[i].name c.name with
   |true=>simp[s_l3Far.d1,w1 hi hlc]
   |false=>
    cases sEq f.cps[i].svc c.near with
    |false=>simp[s_l3Far.d1,w1 hi hlc]
    |true=>
     cases sEq f.cps[i].at_ (mkS []) with
     |true=>simp[s_l3Far.d1,w1 hi hlc]
     |false=>cases h6:sEq (zoneOf f f.cps[i].at_) b.zone<;>simp[s_l3Far.d1,w1 hi hlc,hzo,call1,q5,h6])
  (by simp[s_l3Far.d2,Fl.e,Cp.e,Bt.e]) f.cps.length 0 rfl
 have h0:anyN (svcP c c.near) f.cps 0=false:=by simp[anyN]
 have q0:(c.near.toList==(bs #[]).toList)=sEq c.near (mkS []):=rfl
 have q1:(c.near.toList==c.svc.toList)=sEq c.near c.svc:=rfl
 simp only[Fl.e,Cp.e,Bt.e,jA,jB,Int.natCast_zero,any_P,h0,anyN_all] at h
 simp only[s_l3Far,s_l3Far.d4,Fl.e,Cp.e,Bt.e,jA,jB,apL,jC,jD,C.S_s,q0,farB]
 rw[h]
 cases sEq c.near (mkS [])<;>cases f.cps.any (nearP f c b)<;>cases f.cps.any (svcP c c.near)<;>simp[s_l3Far.d3,q1]
theorem s_l3Fits_eq (hv:validF f=true) (hr:0≤c.room∧c.room≤1000) (hh:0≤c.hold∧c.hold≤1000) (o:Bool):s_l3Fits (f.e++c.e++b.e++[.b o])=some [.i (fitsN f c b o:Nat)]:=by
 have hlc:f.cps.length<big:=by have:=hz.2.2.1;simp only[big];omega
 have h60:=cps_60 hv
 have h:=run_loop (body:=ap27 s_l3Fits.d2) (S:=fun i=>[C.b o,C.i (sumN (onP c b) Cp.room f.cps i+c.room),C.i (sumN (onP c b) Cp.hold f.cps i+c.hold),C.i (cntN (onP c b) f.cps i:Nat),C.i (i:Nat)]++f.e++c.e++b.e) (n:=f.cps.length) (b:=0)
  (ys:=[C.b o,C.i (sumN (onP c b) Cp.room f.cps f.cps.length+c.room),C.i (sumN (onP c b) Cp.hold f.cps f.cps.length+c.hold),C.i (cntN (onP c b) f.cps f.cps.length:Nat)]++f.e++c.e++b.e)
  (fun i hi=>by
   have e3:((i:Int)<(f.cps.length:Int)):=by omega
   have q1:(f.cps[i].name.toList==c.name.toList)=sEq f.cps[i].name c.name:=rfl
   have q3:(f.cps[i].at_.toList==b.name.toList)=sEq f.cps[i].at_ b.name:=rfl
   have b1:=sumN_le (onP c b) Cp.room (cp_room hv) i (by omega)
   have b2:=sumN_le (onP c b) Cp.hold (cp_hold hv) i (by omega)
   have b3:=cntN_le (onP c b) f.cps i
   have b4:=cp_room hv _ (List.getElem_mem hi)
   have b5:=cp_hold hv _ (List.getElem_mem hi)
   have w2:w64 (sumN (onP c b) Cp.room f.cps i+c.room+f.cps[i].room)=sumN (onP c b) Cp.room f.cps i+f.cps[i].room+c.room:=by rw[w64_of (by omega) (by omega)];omega
   have w3:w64 (sumN (onP c b) Cp.hold f.cps i+c.hold+f.cps[i].hold)=sumN (onP c b) Cp.hold f.cps i+f.cps[i].hold+c.hold:=by rw[w64_of (by omega) (by omega)];omega
   have w4:=w64n (n:=cntN (onP c b) f.cps i) (by omega)
   have hon:onP c b f.cps[i]=(!sEq f.cps[i].name c.name&&sEq f.cps[i].at_ b.name):=by
    unfold onP oth
    cases h3:sEq f.cps[i].at_ b.name with
    |true=>rw[name_ne hbo _ h3];simp
    |false=>simp
   simp only[Fl.e,Cp.e,Bt.e,jA,jB,apL,jC,jD,s_l3Fits.d2,C.I_i,C.L_l,C.S_s,jW,jY,getD_map' Cp.e hi,e3,decide_true,jR,jX,sumN_succ _ _ hi,cntN_succ _ hi,hon]
   simp only[Cp.e,jC,jD,C.S_s,C.I_i,q1,q3]
   cases sEq f.cps[i].name c.name<;>cases sEq f.cps[i].at_ b.name<;>simp[s_l3Fits.d1,w1 hi hlc,w2,w3,w4])
  (by simp[s_l3Fits.d2,Fl.e,Cp.e,Bt.e]) f.cps.length 0 rfl
 have z1:sumN (onP c b) Cp.room f.cps 0=0:=by simp[sumN]
 have z2:sumN (onP c b) Cp.hold f.cps 0=0:=by simp[sumN]
 have z3:cntN (onP c b) f.cps 0=0:=by simp[cntN]
 have hsel:=s_l3Select_eq c.sel b hc.2.2.1 hb hbo
 have hT:=s_l3Together_eq hz hc hb hbo
 have hF:=s_l3Far_eq hz hc hb hbo
 have q0:(c.fixed.toList==(bs #[]).toList)=sEq c.fixed (mkS []):=rfl
 have q1:(c.fixed.toList==b.name.toList)=sEq c.fixed b.name:=rfl
 simp only[Fl.e,Cp.e,Bt.e,jA,jB,Int.natCast_zero,z1,z2,z3,Int.zero_add] at h hsel hT hF
 simp only[s_l3Fits,s_l3Fits.d6,Fl.e,Cp.e,Bt.e,jA,jB,apL,jC,jD]
 rw[h]
 have e6:(10:Int)≤((cntN (onP c b) f.cps f.cps.length:Nat):Int)↔10≤cntN (onP c b) f.cps f.cps.length:=by omega
 simp only[bindBlk_self,apL,jC,jD,s_l3Fits.d5,C.B_b,fitsN]
 have fin:∀e:Bool,s_l3Fits.d3 (.i (sumN (onP c b) Cp.room f.cps f.cps.length+c.room)) (.i (sumN (onP c b) Cp.hold f.cps f.cps.length+c.hold)) (.i (cntN (onP c b) f.cps f.cps.length:Nat)) (.b e) (.b f.pack) (.l (f.bts.map Bt.e)) (.l (f.svs.map Sv.e)) (.l (f.cps.map Cp.e))
   (.s c.name) (.s c.svc) (.i c.rank) (.i c.born) (.i c.room) (.i c.hold) (.s c.sel) (.l (c.likes.map Lk.e)) (.i c.apart) (.s c.near) (.s c.fixed) (.s c.at_) (.s b.name) (.s b.zone) (.l (b.marks.map sE)) (.i b.room) (.i b.hold) (.b b.shut)=
   some (.ret [.i (((bif e then 2 else bif !selM c.sel b then 3 else bif f.cps.any (togP f c b) then 4 else bif farB f c b then 5 else
 bif decide (10≤cntN (onP c b) f.cps f.cps.length) then 6 else bif decide (b.room<sumN (onP c b) Cp.room f.cps f.cps.length+c.room) then 7 else bif decide (b.hold<sumN (onP c b) Cp.hold f.cps f.cps.length+c.hold) then 8 else 0:Nat):Nat):Int)]):=by
  intro e
  simp only[s_l3Fits.d3,C.B_b,C.I_i,hsel,hT,hF,call1,jI,jC,ge_iff_le,e6,gt_iff_lt]
  cases e
  ·simp only[jS]
   cases selM c.sel b
   ·rfl
   ·simp only[jZ,jS]
    cases f.cps.any (togP f c b)
    ·simp only[jS]
     cases farB f c b
     ·simp only[jS]
      cases decide (10≤cntN (onP c b) f.cps f.cps.length)
      ·simp only[jS]
       cases decide (b.room<sumN (onP c b) Cp.room f.cps f.cps.length+c.room)
       ·simp only[jS]
        cases decide (b.hold<sumN (onP c b) Cp.hold f.cps f.cps.length+c.hold)<;>rfl
       ·rfl
      ·rfl
     ·rfl
    ·rfl
  ·rfl
 generalize (bif !selM c.sel b then 3 else bif f.cps.any (togP f c b) then 4 else bif farB f c b then 5 else
 bif decide (10≤cntN (onP c b) f.cps f.cps.length) then 6 else bif decide (b.room<sumN (onP c b) Cp.room f.cps f.cps.length+c.room) then 7 else bif decide (b.hold<sumN (onP c b) Cp.hold f.cps f.cps.length+c.hold) then 8 else 0:Nat)=N at fin⊢
 cases hs:b.shut<;>rw[hs] at fin<;>cases o<;>cases h1:sEq c.fixed (mkS [])<;>cases h2:sEq c.fixed b.name<;>
  simp only[s_l3Fits.d4,q0,q1,h1,h2,fin,C.B_b,C.S_s,jR,jS,jZ,ja,Bool.and_true,Bool.and_false,Bool.true_and,Bool.false_and,jJ,apL,jC,jD,jV]<;>rfl
end
end Go.Ev
namespace Go.Ev
section
variable {f:Fl} (hz:f.Sz 1048576) {c:Cp} (hc:c.Sz 1048576) {b:Bt} (hb:b.Sz 1048576) (hbo:berthOk b=true)
include hz hc hb hbo
theorem i_fits_loop (hv:validF f=true) (hr:0≤c.room∧c.room≤1000) (hh:0≤c.hold∧c.hold≤1000) (ha:0≤c.apart∧c.apart≤2):lim (ap31 i_pFits.d4) ([C.b false,C.b false,C.i 0,C.i 0,C.i 0,C.b false,C.l (f.cps.map Cp.e),C.i ((f.cps.length:Nat):Int),C.i 0]++f.e++c.e++b.e)=
  some (.brk 0 ([C.b (anyN (nearP f c b) f.cps f.cps.length),C.b (anyN (svcP c c.svc) f.cps f.cps.length),C.i (cntN (onP c b) f.cps f.cps.length:Nat),C.i (sumN (onP c b) Cp.room f.cps f.cps.length),C.i (sumN (onP c b) Cp.hold f.cps f.cps.length),C.b (anyN (togP f c b) f.cps f.cps.length)]++c.e++b.e)):=by
 have hlc:f.cps.length<big:=by have:=hz.2.2.1;simp only[big];omega
 have h60:=cps_60 hv
 have h:=run_loop (body:=ap31 i_pFits.d4) (S:=fun i=>[C.b (anyN (nearP f c b) f.cps i),C.b (anyN (svcP c c.svc) f.cps i),C.i (cntN (onP c b) f.cps i:Nat),C.i (sumN (onP c b) Cp.room f.cps i),C.i (sumN (onP c b) Cp.hold f.cps i),C.b (anyN (togP f c b) f.cps i),C.l (f.cps.map Cp.e),C.i ((f.cps.length:Nat):Int),C.i (i:Nat)]++f.e++c.e++b.e) (n:=f.cps.length) (b:=0)
  (ys:=[C.b (anyN (nearP f c b) f.cps f.cps.length),C.b (anyN (svcP c c.svc) f.cps f.cps.length),C.i (cntN (onP c b) f.cps f.cps.length:Nat),C.i (sumN (onP c b) Cp.room f.cps f.cps.length),C.i (sumN (onP c b) Cp.hold f.cps f.cps.length),C.b (anyN (togP f c b) f.cps f.cps.length)]++c.e++b.e)
  (fun i hi=>by
   have e3:((i:Int)<(f.cps.length:Int)):=by omega
   have hzo:=i_pZone_eq f f.cps[i].at_ hz
   simp only[Fl.e,jA,jB] at hzo
   have q1:(f.cps[i].name.toList==c.name.toList)=sEq f.cps[i].name c.name:=rfl
   have q2:(f.cps[i].at_.toList==(bs #[]).toList)=sEq f.cps[i].at_ (mkS []):=rfl
   have q3:(f.cps[i].at_.toList==b.name.toList)=sEq f.cps[i].at_ b.name:=rfl
   have q4:(f.cps[i].svc.toList==c.svc.toList)=sEq f.cps[i].svc c.svc:=rfl
   have q6:(f.cps[i].svc.toList==c.near.toList)=sEq f.cps[i].svc c.near:=rfl
   have q5:((zoneOf f f.cps[i].at_).toList==b.zone.toList)=sEq (zoneOf f f.cps[i].at_) b.zone:=rfl
   have b1:=sumN_le (onP c b) Cp.room (cp_room hv) i (by omega)
   have b2:=sumN_le (onP c b) Cp.hold (cp_hold hv) i (by omega)
   have b3:=cntN_le (onP c b) f.cps i
   have b4:=cp_room hv _ (List.getElem_mem hi)
   have b5:=cp_hold hv _ (List.getElem_mem hi)
   have b6:=cp_apart hv _ (List.getElem_mem hi)
   have w2:w64 (sumN (onP c b) Cp.room f.cps i+f.cps[i].room)=sumN (onP c b) Cp.room f.cps i+f.cps[i].room:=by rw[w64_of (by omega) (by omega)]
   have w3:w64 (sumN (onP c b) Cp.hold f.cps i+f.cps[i].hold)=sumN (onP c b) Cp.hold f.cps i+f.cps[i].hold:=by rw[w64_of (by omega) (by omega)]
   have w4:=w64n (n:=cntN (onP c b) f.cps i) (by omega)
   have w5:decide (w64 (c.apart+f.cps[i].apart)>0)=(f.cps[i].apart !=0||c.apart !=0):=by
    rw[w64_of (by omega) (by omega),Bool.eq_iff_iff,decide_eq_true_eq,Bool.or_eq_true,bne_iff_ne,bne_iff_ne];omega
   simp only[anyN_succ _ hi,sumN_succ _ _ hi,cntN_succ _ hi]
   generalize anyN (nearP f c b) f.cps i=A1
   generalize anyN (svcP c c.svc) f.cps i=A2
   generalize anyN (togP f c b) f.cps i=A3
   generalize sumN (onP c b) Cp.room f.cps i=A4 at w2
   generalize sumN (onP c b) Cp.hold f.cps i=A5 at w3
   generalize cntN (onP c b) f.cps i=A6 at w4
   simp only[Fl.e,Cp.e,Bt.e,jA,jB,apL,jC,jD,i_pFits.d4,C.I_i,C.L_l,C.S_s,jW,jY,getD_map' Cp.e hi,e3,decide_true,jR,jX,nearP,svcP,togP,onP,oth]
   simp only[Cp.e,jC,jD,C.S_s,C.I_i,C.B_b,q1,q2,q3,q4,q5,w5,hzo,call1,jI]
   cases sEq f.cps[i].name c.name with
   |true=>simp[i_pFits.d3,w1 hi hlc]
   |false=>
    cases sEq f.cps[i].at_ (mkS []) with
    |true=>simp[i_pFits.d3,w1 hi hlc]
    |false=>
     simp only[ja,jR,jS,Bool.true_and]
     have fin:∀(t:Bool) (n:Bool),bindBlk 1 (i_pFits.d2 (.b A1) (.b n) (.i (A6:Nat)) (.i A4) (.i A5) (.b t) (.b (sEq (zoneOf f f.cps[i].at_) b.zone)) (.l (f.cps.map Cp.e)) (.i (f.cps.length:Nat)) (.i (i:Nat)) (.b f.pack) (.l (f.bts.map Bt.e)) (.l (f.svs.map Sv.e)) (.l (f.cps.map Cp.e))
       (.s c.name) (.s c.svc) (.i c.rank) (.i c.born) (.i c.room) (.i c.hold) (.s c.sel) (.l (c.likes.map Lk.e)) (.i c.apart) (.s c.near) (.s c.fixed) (.s c.at_) (.s b.name) (.s b.zone) (.l (b.marks.map sE)) (.i b.room) (.i b.hold) (.b b.shut)
       (.s f.cps[i].name) (.s f.cps[i].svc) (.i f.cps[i].rank) (.i f.cps[i].born) (.i f.cps[i].room) (.i f.cps[i].hold) (.s f.cps[i].sel) (.l (f.cps[i].likes.map Lk.e)) (.i f.cps[i].apart) (.s f.cps[i].near) (.s f.cps[i].fixed) (.s f.cps[i].at_)) (ap31 i_pFits.d3)=
       some (.again [.b (A1||(sEq f.cps[i].svc c.near&&sEq (zoneOf f f.cps[i].at_) b.zone)),.b n,.i ((A6+(bif sEq f.cps[i].at_ b.name then 1 else 0):Nat):Int),.i (A4+(bif sEq f.cps[i].at_ b.name then f.cps[i].room else 0)),.i (A5+(bif sEq f.cps[i].at_ b.name then f.cps[i].hold else 0)),.b t,.l (f.cps.map Cp.e),.i (f.cps.length:Nat),.i ((i+1:Nat):Int),.b f.pack,.l (f.bts.map Bt.e),.l (f.svs.map Sv.e),.l (f.cps.map Cp.e),
       .s c.name,.s c.svc,.i c.rank,.i c.born,.i c.room,.i c.hold,.s c.sel,.l (c.likes.map Lk.e),.i c.apart,.s c.near,.s c.fixed,.s c.at_,.s b.name,.s b.zone,.l (b.marks.map sE),.i b.room,.i b.hold,.b b.shut]):=by
      intro t n
      simp only[i_pFits.d2,C.B_b,C.S_s,q6]
      cases A1<;>cases sEq f.cps[i].svc c.near<;>cases sEq (zoneOf f f.cps[i].at_) b.zone<;>cases h3:sEq f.cps[i].at_ b.name<;>
       simp only[ja,jZ,jR,jS,jJ,jC,jD,i_pFits.d1,C.S_s,C.I_i,q3,h3,bindBlk_self,apL,i_pFits.d3,w1 hi hlc,w2,w3,w4,Bool.or_true,Bool.or_false,Bool.and_true,Bool.and_false,Bool.true_and,Bool.false_and,Int.add_zero,Nat.add_zero]
     cases h4:sEq f.cps[i].svc c.svc with
     |false=>simp only[jS,Bool.false_and,Bool.or_false,jJ,jC,jD,fin]
     |true=>
      have fin':=fun t:Bool=>fin t true
      cases A3<;>cases h3:sEq f.cps[i].at_ b.name<;>rw[h3] at fin'<;>cases hA:(f.cps[i].apart !=0||c.apart !=0)<;>cases h6:sEq (zoneOf f f.cps[i].at_) b.zone<;>rw[h6] at fin'<;>cases h8:c.apart==2<;>
       simp only[ja,jZ,jR,jS,Bool.true_and,Bool.false_and,Bool.and_true,Bool.and_false,Bool.or_true,Bool.or_false,Bool.false_or,Bool.true_or,jJ,jC,jD,fin'])
  (by simp[i_pFits.d4,Fl.e,Cp.e,Bt.e]) f.cps.length 0 rfl
 have z1:sumN (onP c b) Cp.room f.cps 0=0:=by simp[sumN]
 have z2:sumN (onP c b) Cp.hold f.cps 0=0:=by simp[sumN]
 have z3:cntN (onP c b) f.cps 0=0:=by simp[cntN]
 have z4:∀p:Cp→Bool,anyN p f.cps 0=false:=by simp[anyN]
 simp only[Int.natCast_zero,z1,z2,z3,z4] at h
 exact h
theorem i_pFits_eq (hv:validF f=true) (hr:0≤c.room∧c.room≤1000) (hh:0≤c.hold∧c.hold≤1000) (ha:0≤c.apart∧c.apart≤2) (o:Bool):i_pFits (f.e++c.e++b.e++[.b o])=some [.i (fitsN f c b (!o):Nat)]:=by
 have h60:=cps_60 hv
 have h:=i_fits_loop hz hc hb hbo hv hr hh ha
 have hsel:=i_pMeets_eq c.sel b hc.2.2.1 hb hbo
 have q0:(c.fixed.toList==(bs #[]).toList)=sEq c.fixed (mkS []):=rfl
 have q1:(c.fixed.toList==b.name.toList)=sEq c.fixed b.name:=rfl
 have q2:(c.near.toList==(bs #[]).toList)=sEq c.near (mkS []):=rfl
 have q3:(c.near.toList==c.svc.toList)=sEq c.near c.svc:=rfl
 have b1:=sumN_le (onP c b) Cp.room (cp_room hv) f.cps.length (by omega)
 have b2:=sumN_le (onP c b) Cp.hold (cp_hold hv) f.cps.length (by omega)
 have w2:w64 (sumN (onP c b) Cp.room f.cps f.cps.length+c.room)=sumN (onP c b) Cp.room f.cps f.cps.length+c.room:=by rw[w64_of (by omega) (by omega)]
 have w3:w64 (sumN (onP c b) Cp.hold f.cps f.cps.length+c.hold)=sumN (onP c b) Cp.hold f.cps f.cps.length+c.hold:=by rw[w64_of (by omega) (by omega)]
 have e6:(10:Int)≤((cntN (onP c b) f.cps f.cps.length:Nat):Int)↔10≤cntN (onP c b) f.cps f.cps.length:=by omega
 simp only[Fl.e,Cp.e,Bt.e,jA,jB,anyN_all] at h hsel
 have far:(!sEq c.near (mkS [])&&(!f.cps.any (nearP f c b)&&!(sEq c.near c.svc&&!f.cps.any (svcP c c.svc))))=farB f c b:=by
  unfold farB
  cases hn:sEq c.near c.svc with
  |true=>rw[(sEq_iff _ _).1 hn];simp
  |false=>simp
 have fin:i_pFits.d7 (.b f.pack) (.l (f.bts.map Bt.e)) (.l (f.svs.map Sv.e)) (.l (f.cps.map Cp.e))
   (.s c.name) (.s c.svc) (.i c.rank) (.i c.born) (.i c.room) (.i c.hold) (.s c.sel) (.l (c.likes.map Lk.e)) (.i c.apart) (.s c.near) (.s c.fixed) (.s c.at_) (.s b.name) (.s b.zone) (.l (b.marks.map sE)) (.i b.room) (.i b.hold) (.b b.shut)=
   some (.ret [.i (((bif !selM c.sel b then 3 else bif f.cps.any (togP f c b) then 4 else bif farB f c b then 5 else
 bif decide (10≤cntN (onP c b) f.cps f.cps.length) then 6 else bif decide (b.room<sumN (onP c b) Cp.room f.cps f.cps.length+c.room) then 7 else bif decide (b.hold<sumN (onP c b) Cp.hold f.cps f.cps.length+c.hold) then 8 else 0:Nat):Nat):Int)]):=by
  simp only[i_pFits.d7,hsel,call1,jI,jC,C.B_b,C.L_l,jW]
  cases selM c.sel b
  ·rfl
  simp only[jZ,jS]
  rw[h]
  simp only[bindBlk_self,apL,jC,jD,i_pFits.d6,C.B_b]
  cases f.cps.any (togP f c b)
  ·simp only[jS]
   have d5:∀e:Bool,i_pFits.d5 (.i (cntN (onP c b) f.cps f.cps.length:Nat)) (.i (sumN (onP c b) Cp.room f.cps f.cps.length)) (.i (sumN (onP c b) Cp.hold f.cps f.cps.length)) (.b e)
     (.s c.name) (.s c.svc) (.i c.rank) (.i c.born) (.i c.room) (.i c.hold) (.s c.sel) (.l (c.likes.map Lk.e)) (.i c.apart) (.s c.near) (.s c.fixed) (.s c.at_) (.s b.name) (.s b.zone) (.l (b.marks.map sE)) (.i b.room) (.i b.hold) (.b b.shut)=
     some (.ret [.i (((bif e then 5 else bif decide (10≤cntN (onP c b) f.cps f.cps.length) then 6 else bif decide (b.room<sumN (onP c b) Cp.room f.cps f.cps.length+c.room) then 7 else bif decide (b.hold<sumN (onP c b) Cp.hold f.cps f.cps.length+c.hold) then 8 else 0:Nat):Nat):Int)]):=by
    intro e
    simp only[i_pFits.d5,C.B_b,C.I_i,w2,w3,ge_iff_le,gt_iff_lt,e6]
    cases e
    ·simp only[jS]
     cases decide (10≤cntN (onP c b) f.cps f.cps.length)
     ·simp only[jS]
      cases decide (b.room<sumN (onP c b) Cp.room f.cps f.cps.length+c.room)
      ·simp only[jS]
       cases decide (b.hold<sumN (onP c b) Cp.hold f.cps f.cps.length+c.hold)<;>rfl
      ·rfl
     ·rfl
    ·rfl
   rw[←far]
   generalize (bif decide (10≤cntN (onP c b) f.cps f.cps.length) then 6 else bif decide (b.room<sumN (onP c b) Cp.room f.cps f.cps.length+c.room) then 7 else bif decide (b.hold<sumN (onP c b) Cp.hold f.cps f.cps.length+c.hold) then 8 else 0:Nat)=N at d5⊢
   simp only[C.S_s,q2,q3]
   cases sEq c.near (mkS [])<;>cases f.cps.any (nearP f c b)<;>cases sEq c.near c.svc<;>cases f.cps.any (svcP c c.svc)<;>
    simp only[jR,jS,jZ,ja,jJ,apL,jC,jD,d5,Bool.and_true,Bool.and_false,Bool.true_and,Bool.false_and]
  ·rfl
 simp only[i_pFits,i_pFits.d9,Fl.e,Cp.e,Bt.e,jA,jB,apL,jC,jD,C.B_b,fitsN]
 generalize (bif !selM c.sel b then 3 else bif f.cps.any (togP f c b) then 4 else bif farB f c b then 5 else
 bif decide (10≤cntN (onP c b) f.cps f.cps.length) then 6 else bif decide (b.room<sumN (onP c b) Cp.room f.cps f.cps.length+c.room) then 7 else bif decide (b.hold<sumN (onP c b) Cp.hold f.cps f.cps.length+c.hold) then 8 else 0:Nat)=N at fin⊢
 cases hs:b.shut<;>rw[hs] at fin<;>cases o<;>cases h1:sEq c.fixed (mkS [])<;>cases h2:sEq c.fixed b.name<;>
  simp only[i_pFits.d8,q0,q1,h1,h2,fin,C.B_b,C.S_s,jR,jS,jZ,ja,Bool.and_true,Bool.and_false,Bool.true_and,Bool.false_and,jJ,bindNrm_ret,apL,jC,jD,jV]<;>rfl
end
end Go.Ev
namespace Go.Ev
section
variable {f:Fl} (hz:f.Sz 1048576) (cn bn_:Str)
include hz
end
section
variable {f:Fl} (hz:f.Sz 1048576) {c:Cp} (hc:c.Sz 1048576) (hv:validF f=true) (hr:0≤c.room∧c.room≤1000) (hh:0≤c.hold∧c.hold≤1000) (ha:0≤c.apart∧c.apart≤2)
include hz hc hv hr hh ha
end
end Go.Ev
namespace Go.Ev
section
variable {f:Fl} (hz:f.Sz 1048576) {c:Cp} (hc:c.Sz 1048576) (hv:validF f=true) (hr:0≤c.room∧c.room≤1000) (hh:0≤c.hold∧c.hold≤1000) (ha:0≤c.apart∧c.apart≤2)
include hz hc hv hr hh ha
end
section
variable {f:Fl} (hz:f.Sz 1048576) (cn:Str)
include hz
end
end Go.Ev
namespace Go.Ev
theorem findIx_neg {α:Type} (p:α→Bool):∀(l:List α) (n:Nat),findIx p l n<0→l.any p=false
 |[],_,_=>rfl
 |x::r,n,h=>by
  simp only[findIx] at h
  cases hp:p x with
  |true=>rw[hp,jR] at h;omega
  |false=>rw[hp,jS] at h;simp[hp,findIx_neg p r (n+1) h]
theorem stand_at {f:Fl} (hv:validF f=true) {c:Cp} (hc:c∈f.cps) (h0:sEq c.at_ (mkS [])=false):∃k,∃h:k<f.bts.length,bIx f c.at_=(k:Nat)∧sEq f.bts[k].name c.at_=true:=by
 rcases bIx_at f c.at_ with h|h
 ·obtain ⟨i,hi,rfl⟩:=List.getElem_of_mem hc
  have hq:=findIx_neg _ _ _ h
  simp only[validF,Bool.and_eq_true] at hv
  have:=(allFrom_iff _ _ _).1 hv.2.2.2.2.1 i (Nat.zero_le _) (by omega)
  simp only[cpA,List.getElem?_eq_getElem hi,Bool.and_eq_true,h0,Bool.false_or] at this
  rw[hq] at this
  simp at this
 ·exact h
def wrongB (f:Fl) (c:Cp):Bool:=!sEq c.at_ (mkS [])&&match f.bts[(bIx f c.at_).toNat]? with|some b=>!(fitsN f c b true==0)|none=>false
def wrongL (f:Fl) (i:Nat):List Str:=((f.cps.take i).filter (wrongB f)).map Cp.name
theorem wrongL_succ (f:Fl) {i:Nat} (h:i<f.cps.length):wrongL f (i+1)=bif wrongB f f.cps[i] then wrongL f i++[f.cps[i].name] else wrongL f i:=by
 unfold wrongL
 rw[List.take_succ_eq_append_getElem h,List.filter_append,List.map_append]
 cases hw:wrongB f f.cps[i]<;>simp[hw]
theorem wrongL_len (f:Fl) (i:Nat):(wrongL f i).length≤i:=by
 unfold wrongL
 rw[jW]
 exact Nat.le_trans (List.length_filter_le _ _) (by rw[List.length_take];omega)
def rightOf (f:Fl):List Str:=bif validF f then wrongL f f.cps.length else []
section
variable {f:Fl} (hz:f.Sz 1048576)
include hz
theorem i_PilotRight_eq:i_PilotRight f.e=some [.l ((rightOf f).map sE)]:=by
 have h3:=i_PilotValid_eq hz
 simp only[Fl.e] at h3
 have hlc:f.cps.length<big:=by have:=hz.2.2.1;simp only[big];omega
 simp only[i_PilotRight,i_PilotRight.d3,Fl.e,apL,jC,jD,h3,call1,jI,C.B_b,C.L_l,jW,rightOf]
 cases hv:validF f with
 |false=>rfl
 |true=>
  have h:=run_loop (body:=ap8 i_PilotRight.d1) (S:=fun i=>[C.l (f.cps.map Cp.e),C.i ((f.cps.length:Nat):Int),C.i (i:Nat)]++f.e++[C.l ((wrongL f i).map sE)]) (n:=f.cps.length) (b:=0) (ys:=[C.l ((wrongL f f.cps.length).map sE)])
   (fun i hi=>by
    have e3:((i:Int)<(f.cps.length:Int)):=by omega
    have m:=List.getElem_mem hi
    have hb:=i_pBerthAt_eq f f.cps[i].at_ hz.1.1
    have hn:(((wrongL f i).length:Int)+1≤4294967296):=by have:=wrongL_len f i;have:=hz.2.2.1;omega
    have hn':((wrongL f i).length+1≤4294967296):=by omega
    have q0:(f.cps[i].at_.toList==(bs #[]).toList)=sEq f.cps[i].at_ (mkS []):=rfl
    simp only[Fl.e,jA,jB] at hb
    rw[wrongL_succ f hi]
    simp only[Fl.e,jA,jB,apL,jC,jD,i_PilotRight.d1,C.I_i,C.L_l,C.S_s,C.B_b,jW,jY,getD_map' Cp.e hi,e3,decide_true,jR,jX,w1 hi hlc]
    simp only[Cp.e,jC,jD,C.S_s,q0]
    cases h0:sEq f.cps[i].at_ (mkS []) with
    |true=>simp[wrongB,h0]
    |false=>
     obtain ⟨k,hk,e1,_⟩:=stand_at hv m h0
     have e4:((k:Int)<(f.bts.length:Int)):=by omega
     have F1:=i_pFits_eq hz (hz.2.2.2 _ m) (hz.1.2 _ (List.getElem_mem hk)) (valid_bts hv _ (List.getElem_mem hk)) hv (cp_room hv _ m) (cp_hold hv _ m) (cp_apart hv _ m) false
     simp only[Fl.e,Cp.e,Bt.e,jA,jB,ja] at F1
     have fe:(((fitsN f f.cps[i] f.bts[k] true:Nat):Int) !=0)=!(fitsN f f.cps[i] f.bts[k] true==0):=by rw[Bool.eq_iff_iff,bne_iff_ne,Bool.not_eq_true',beq_eq_false_iff_ne];omega
     have hw:wrongB f f.cps[i]=!(fitsN f f.cps[i] f.bts[k] true==0):=by simp[wrongB,h0,e1,hk]
     simp only[hb,e1,call1,jI,jC,C.I_i,jX,decide_true,jR,ja,e4,getD_map' Bt.e hk,jY]
     simp only[Bt.e,jC,jD,F1,call1,jI,C.I_i,fe,hw]
     cases fitsN f f.cps[i] f.bts[k] true==0<;>simp[sE,hn'])
   (by simp[i_PilotRight.d1,Fl.e]) f.cps.length 0 rfl
  simp only[Fl.e,jA,jB,Int.natCast_zero] at h
  have e0:(wrongL f 0).map sE=nils:=rfl
  rw[e0] at h
  simp only[jZ,jS,h]
  simp[i_PilotRight.d2]
theorem s_PilotRight_eq:s_PilotRight f.e=some [.l ((rightOf f).map sE)]:=by
 have h3:=s_PilotValid_eq hz
 simp only[Fl.e] at h3
 have hlc:f.cps.length<big:=by have:=hz.2.2.1;simp only[big];omega
 simp only[s_PilotRight,s_PilotRight.d3,Fl.e,apL,jC,jD,h3,call1,jI,C.B_b,C.L_l,jW,rightOf]
 cases hv:validF f with
 |false=>rfl
 |true=>
  have h:=run_loop (body:=ap6 s_PilotRight.d1) (S:=fun i=>[C.i (i:Nat)]++f.e++[C.l ((wrongL f i).map sE)]) (n:=f.cps.length) (b:=0) (ys:=[C.l ((wrongL f f.cps.length).map sE)])
   (fun i hi=>by
    have e3:((i:Int)<(f.cps.length:Int)):=by omega
    have m:=List.getElem_mem hi
    have hb:=s_l2Berth_eq f f.cps[i].at_ hz.1.1
    have hn':((wrongL f i).length+1≤4294967296):=by have:=wrongL_len f i;have:=hz.2.2.1;omega
    have q0:(f.cps[i].at_.toList==(bs #[]).toList)=sEq f.cps[i].at_ (mkS []):=rfl
    simp only[Fl.e,jA,jB] at hb
    rw[wrongL_succ f hi]
    simp only[Fl.e,jA,jB,apL,jC,jD,s_PilotRight.d1,C.I_i,C.L_l,C.S_s,C.B_b,jW,jY,getD_map' Cp.e hi,e3,decide_true,jR,jX,w1 hi hlc]
    simp only[Cp.e,jC,jD,C.S_s,q0]
    cases h0:sEq f.cps[i].at_ (mkS []) with
    |true=>simp[wrongB,h0]
    |false=>
     obtain ⟨k,hk,e1,_⟩:=stand_at hv m h0
     have e4:((k:Int)<(f.bts.length:Int)):=by omega
     have F1:=s_l3Fits_eq hz (hz.2.2.2 _ m) (hz.1.2 _ (List.getElem_mem hk)) (valid_bts hv _ (List.getElem_mem hk)) hv (cp_room hv _ m) (cp_hold hv _ m) true
     simp only[Fl.e,Cp.e,Bt.e,jA,jB] at F1
     have fe:(((fitsN f f.cps[i] f.bts[k] true:Nat):Int) !=0)=!(fitsN f f.cps[i] f.bts[k] true==0):=by rw[Bool.eq_iff_iff,bne_iff_ne,Bool.not_eq_true',beq_eq_false_iff_ne];omega
     have hw:wrongB f f.cps[i]=!(fitsN f f.cps[i] f.bts[k] true==0):=by simp[wrongB,h0,e1,hk]
     simp only[hb,e1,call1,jI,jC,C.I_i,jX,decide_true,jR,ja,e4,getD_map' Bt.e hk,jY]
     simp only[Bt.e,jC,jD,F1,call1,jI,C.I_i,fe,hw]
     cases fitsN f f.cps[i] f.bts[k] true==0<;>simp[sE,hn'])
   (by simp[s_PilotRight.d1,Fl.e]) f.cps.length 0 rfl
  simp only[Fl.e,jA,jB,Int.natCast_zero] at h
  have e0:(wrongL f 0).map sE=nils:=rfl
  rw[e0] at h
  simp only[jZ,jS,h]
  simp[s_PilotRight.d2]
end
end Go.Ev
namespace Go.Ev
def mkAll {α:Type} (mk:α→Int→α×Int):List α→Int→List α×Int
 |[],k=>([],k)
 |x::r,k=>((mk x k).1::(mkAll mk r (mk x k).2).1,(mkAll mk r (mk x k).2).2)
theorem mkAll_len {α:Type} (mk:α→Int→α×Int):∀(l:List α) (k:Int),(mkAll mk l k).1.length=l.length
 |[],_=>rfl
 |x::r,k=>by simp[mkAll,mkAll_len mk r]
theorem mkAll_up {α:Type} (mk:α→Int→α×Int) (D:Nat):∀(l:List α) (k:Int),(∀x,x∈l→∀k,k≤(mk x k).2∧(mk x k).2≤k+D)→k≤(mkAll mk l k).2∧(mkAll mk l k).2≤k+(l.length*D:Nat)
 |[],k,_=>by simp[mkAll]
 |x::r,k,h=>by
  have h1:=h x (by simp) k
  have h2:=mkAll_up mk D r (mk x k).2 fun y hy=>h y (by simp[hy])
  simp only[mkAll,List.length_cons,Nat.succ_mul]
  omega
theorem mark_loop {α:Type} {e:α→List C} {P:α→Prop} {K:Int} (mk:α→Int→α×Int) (D:Nat) {body:List C→R} {n:Nat} (hn:n≤1048576) (hD:D≤4294967296)
  (hb:∀(i:Nat) (x:α) (c:List (List C)) (k:Int),P x→i<n→c.length=n→c.getD i []=e x→0≤k→k≤K→body [.i k,.i i,.l c]=some (.again [.i (mk x k).2,.i (i+1:Nat),.l (c.set i (e (mk x k).1))]))
  (he:∀(k:Int) (c:List (List C)),c.length=n→body [.i k,.i n,.l c]=some (.brk 0 [.i k,.l c])):
  ∀(r:List α) (p:List (List C)) (k:Int),p.length+r.length=n→(∀x,x∈r→P x)→(∀x,x∈r→∀k,k≤(mk x k).2∧(mk x k).2≤k+D)→0≤k→k+(r.length*D:Nat)≤K→
   lim body [.i k,.i p.length,.l (p++r.map e)]=some (.brk 0 [.i (mkAll mk r k).2,.l (p++(mkAll mk r k).1.map e)])
 |[],p,k,h,_,_,_,_=>by
  simp only[List.length_nil,Nat.add_zero] at h
  have:=he k (p++([]:List α).map e) (by simp[h])
  rw[h]
  exact lim_brk this
 |x::r,p,k,h,hp,hm,k0,k1=>by
  simp only[List.length_cons,Nat.succ_mul] at h k1
  have hx:=hm x (by simp) k
  have hc:(p++(x::r).map e).length=n:=by simp;omega
  have hg:(p++(x::r).map e).getD p.length []=e x:=by
   rw[List.getD_eq_getElem?_getD,List.getElem?_append_right (Nat.le_refl _),Nat.sub_self];rfl
  have h1:=hb p.length x _ k (hp x (by simp)) (by omega) hc hg k0 (by omega)
  rw[lim_again h1]
  have hs:(p++(x::r).map e).set p.length (e (mk x k).1)=(p++[e (mk x k).1])++r.map e:=by
   rw[List.set_append_right _ _ (Nat.le_refl _),Nat.sub_self,List.map_cons,List.set_cons_zero,List.append_assoc];rfl
  have ih:=mark_loop mk D hn hD hb he r (p++[e (mk x k).1]) (mk x k).2 (by simp;omega) (fun y hy=>hp y (by simp[hy])) (fun y hy=>hm y (by simp[hy])) (by omega) (by omega)
  rw[List.length_append,List.length_singleton] at ih
  rw[hs,ih]
  simp[mkAll]
end Go.Ev
namespace Go.Ev
theorem mkBy1 (x:C):(mkBy [[x]]).size=1:=rfl
theorem mt_loop:∀(d:Nat) (k:Int) (o:Str),0≤k→k<10^d→k≤9000000000000000000→o.size+d≤1000→∃s:Str,lim (ap2 w_markText.d1) [.i k,.s o]=some (.brk 0 [.s s])∧s.size≤o.size+d
 |0,k,o,h0,h1,_,h2=>by
  have:k=0:=by simp at h1;omega
  subst this
  exact ⟨o,lim_brk (by simp[w_markText.d1]),by omega⟩
 |d+1,k,o,h0,h1,h3,h2=>by
  by_cases hk:k>0
  ·have e1:w64 (k.tdiv 10)=k/10:=by
    have:k.tdiv 10=k/10:=Int.tdiv_eq_ediv_of_nonneg h0
    rw[this,w64_of (by omega) (by omega)]
   have hs:((mkBy [[C.i (IntKind.wrap .u8 (w64 (48+k.tmod 10)))]])++o).size=1+o.size:=by rw[ByteArray.size_append,mkBy1]
   obtain ⟨s,h4,h5⟩:=mt_loop d (k/10) ((mkBy [[C.i (IntKind.wrap .u8 (w64 (48+k.tmod 10)))]])++o) (by omega) (by rw[Int.pow_succ] at h1;omega) (by omega) (by omega)
   refine ⟨s,?_,by omega⟩
   rw[←h4]
   refine lim_again ?_
   have:(mkBy [[C.i (IntKind.wrap .u8 (w64 (48+k.tmod 10)))]]).size+o.size≤4294967296:=by rw[mkBy1];omega
   simp only[w_markText.d1,apL,jC,jD,C.I_i,C.S_s,hk,decide_true,jR,e1,this]
  ·have:k=0:=by omega
   subst this
   exact ⟨o,lim_brk (by simp[w_markText.d1]),by omega⟩
noncomputable def mtx (k:Int):Str:=match w_markText [.i k] with|some [.s s]=>s|_=>mkS []
theorem mtx_eq {k:Int} (h0:0≤k) (h1:k≤9000000000000000000):w_markText [.i k]=some [.s (mtx k)]:=by
 have key:∃s,w_markText [.i k]=some [.s s]:=by
  by_cases hk:k≤0
  ·exact ⟨bs #[109,48],by simp only[w_markText,w_markText.d3,apL,jC,C.I_i,hk,decide_true,jR,jV]⟩
  ·obtain ⟨s,h2,h3⟩:=mt_loop 19 k (bs #[]) h0 (by omega) h1 (by decide)
   have h3:s.size≤19:=by have e:(bs #[]).size=0:=rfl;omega
   have:(bs #[109]).size+s.size≤4294967296:=by have:(bs #[109]).size=1:=rfl;omega
   exact ⟨bs #[109]++s,by simp only[w_markText,w_markText.d3,apL,jC,C.I_i,hk,decide_false,jS,h2,bindBlk_self,w_markText.d2,C.S_s,this,decide_true,jR,jV]⟩
 obtain ⟨s,h⟩:=key
 rw[h]
 simp[mtx,h]
end Go.Ev
namespace Go.Ev
noncomputable def mkStr (_:Str) (k:Int):Str×Int:=(mtx k,k+1)
theorem w_markStringS_eq (l:List Str) (k:Int) (hl:l.length≤1048576) (h0:0≤k) (h1:k≤8000000000000000000):
  w_markStringS [.i k,.l (l.map sE)]=some [.i (mkAll mkStr l k).2,.l ((mkAll mkStr l k).1.map sE)]:=by
 have h:=mark_loop (K:=8500000000000000000) (P:=fun _=>True) (e:=sE) mkStr 1 (body:=ap3 w_markStringS.d1) (n:=l.length) hl (by omega)
  (fun i x c k _ hi hc hg k0 k1=>by
   have e3:((i:Int)<(c.length:Int)):=by omega
   have e4:w64 (k+1)=k+1:=w64_of (by omega) (by omega)
   simp only[apL,jC,jD,w_markStringS.d1,C.I_i,C.L_l,e3,decide_true,jR,mtx_eq k0 (show k≤9000000000000000000 by omega),call1,jI,jX,jY,hg,e4,w1 hi (show l.length<big by simp only[big];omega)]
   simp[sE,setCs,mkStr])
  (fun k c hc=>by simp[w_markStringS.d1,hc]) l [] k (by simp) (fun _ _=>trivial) (fun x _ k=>by simp only[mkStr];omega) h0 (by simp;omega)
 simp only[List.length_nil,jB,Int.natCast_zero] at h
 simp only[w_markStringS,w_markStringS.d3,apL,jC,jD,C.L_l]
 rw[h]
 simp[w_markStringS.d2]
theorem held_loop {α:Type} {e:α→List C} (mk:α→Int→α×Int) (D:Nat) {body:List C→R} {n:Nat} {L:List (List C)} {K:Int} (hn:n≤1048576) (hD:D≤4294967296)
  (hb:∀(i:Nat) (x:α) (k:Int),i<n→L.getD i []=e (mk x k).1→0≤k→k≤K→body [.l L,.i k,.i i]=some (.again [.l L,.i (mk x k).2,.i (i+1:Nat)]))
  (he:∀(k:Int),body [.l L,.i k,.i n]=some (.brk 0 [.i k])):
  ∀(r:List α) (p:List (List C)) (k:Int),L=p++(mkAll mk r k).1.map e→p.length+r.length=n→(∀x,x∈r→∀k,k≤(mk x k).2∧(mk x k).2≤k+D)→0≤k→k+(r.length*D:Nat)≤K→
   lim body [.l L,.i k,.i p.length]=some (.brk 0 [.i (mkAll mk r k).2])
 |[],p,k,_,h,_,_,_=>by
  simp only[List.length_nil,Nat.add_zero] at h
  rw[h]
  exact lim_brk (he k)
 |x::r,p,k,hL,h,hm,k0,k1=>by
  simp only[List.length_cons,Nat.succ_mul] at h k1
  have hx:=hm x (by simp) k
  have hg:L.getD p.length []=e (mk x k).1:=by
   rw[hL,List.getD_eq_getElem?_getD,List.getElem?_append_right (Nat.le_refl _),Nat.sub_self];rfl
  rw[lim_again (hb p.length x k (by omega) hg k0 (by omega))]
  have ih:=held_loop mk D hn hD hb he r (p++[e (mk x k).1]) (mk x k).2 (by rw[hL];simp[mkAll]) (by simp;omega) (fun y hy=>hm y (by simp[hy])) (by omega) (by omega)
  rw[List.length_append,List.length_singleton] at ih
  rw[ih]
  simp[mkAll]
theorem w_heldStringS_eq (l:List Str) (k:Int) (hl:l.length≤1048576) (h0:0≤k) (h1:k≤8000000000000000000):
  w_heldStringS [.l ((mkAll mkStr l k).1.map sE),.i k]=some [.i (mkAll mkStr l k).2]:=by
 have hlen:((mkAll mkStr l k).1.map sE).length=l.length:=by rw[jW,mkAll_len]
 have h:=held_loop (K:=8500000000000000000) (e:=sE) mkStr 1 (body:=ap3 w_heldStringS.d1) (n:=l.length) (L:=(mkAll mkStr l k).1.map sE) hl (by omega)
  (fun i x k hi hg k0 k1=>by
   have e3:((i:Int)<(l.length:Int)):=by omega
   have e4:w64 (k+1)=k+1:=w64_of (by omega) (by omega)
   simp only[apL,jC,jD,w_heldStringS.d1,C.I_i,C.L_l,hlen,e3,decide_true,jR,mtx_eq k0 (show k≤9000000000000000000 by omega),call1,jI,jX,jY,hg,e4,w1 hi (show l.length<big by simp only[big];omega)]
   simp[sE,mkStr])
  (fun k=>by simp[w_heldStringS.d1,mkAll_len]) l [] k rfl (by simp) (fun x _ k=>by simp only[mkStr];omega) h0 (by simp;omega)
 simp only[List.length_nil,Int.natCast_zero] at h
 simp only[w_heldStringS,w_heldStringS.d3,apL,jC,jD,C.L_l]
 rw[h]
 simp[w_heldStringS.d2]
end Go.Ev
namespace Go.Ev
theorem set_get {α:Type} {c:List (List α)} {i:Nat} (h:i<c.length) (r:List α):(c.set i r).getD i []=r:=by
 rw[List.getD_eq_getElem?_getD,List.getElem?_set_self h];rfl
noncomputable def mkSv (_:Sv) (k:Int):Sv×Int:=(⟨mtx k,k+1⟩,k+2)
noncomputable def mkLk (_:Lk) (k:Int):Lk×Int:=(⟨mtx k,k+1⟩,k+2)
theorem w_markPilotServiceS_eq (l:List Sv) (k:Int) (hl:l.length≤1048576) (h0:0≤k) (h1:k≤8000000000000000000):
  w_markPilotServiceS [.i k,.l (l.map Sv.e)]=some [.i (mkAll mkSv l k).2,.l ((mkAll mkSv l k).1.map Sv.e)]:=by
 have h:=mark_loop (K:=8500000000000000000) (P:=fun _=>True) (e:=Sv.e) mkSv 2 (body:=ap3 w_markPilotServiceS.d1) (n:=l.length) hl (by omega)
  (fun i x c k _ hi hc hg k0 k1=>by
   have hic:i<c.length:=by omega
   have e3:((i:Int)<(c.length:Int)):=by omega
   have e4:w64 (k+1)=k+1:=w64_of (by omega) (by omega)
   have e5:w64 (k+1+1)=k+2:=by rw[w64_of (by omega) (by omega)];omega
   simp only[apL,jC,jD,w_markPilotServiceS.d1,C.I_i,C.L_l,e3,decide_true,jR,mtx_eq k0 (show k≤9000000000000000000 by omega),call1,jI,jX,jY,hg,e4,e5,w1 hi (show l.length<big by simp only[big];omega),List.length_set,set_get hic,List.set_set]
   simp[Sv.e,setCs,mkSv])
  (fun k c hc=>by simp[w_markPilotServiceS.d1,hc]) l [] k (by simp) (fun _ _=>trivial) (fun x _ k=>by simp only[mkSv];omega) h0 (by simp;omega)
 simp only[List.length_nil,jB,Int.natCast_zero] at h
 simp only[w_markPilotServiceS,w_markPilotServiceS.d3,apL,jC,jD,C.L_l]
 rw[h]
 simp[w_markPilotServiceS.d2]
theorem w_markPilotLikeS_eq (l:List Lk) (k:Int) (hl:l.length≤1048576) (h0:0≤k) (h1:k≤8000000000000000000):
  w_markPilotLikeS [.i k,.l (l.map Lk.e)]=some [.i (mkAll mkLk l k).2,.l ((mkAll mkLk l k).1.map Lk.e)]:=by
 have h:=mark_loop (K:=8500000000000000000) (P:=fun _=>True) (e:=Lk.e) mkLk 2 (body:=ap3 w_markPilotLikeS.d1) (n:=l.length) hl (by omega)
  (fun i x c k _ hi hc hg k0 k1=>by
   have hic:i<c.length:=by omega
   have e3:((i:Int)<(c.length:Int)):=by omega
   have e4:w64 (k+1)=k+1:=w64_of (by omega) (by omega)
   have e5:w64 (k+1+1)=k+2:=by rw[w64_of (by omega) (by omega)];omega
   simp only[apL,jC,jD,w_markPilotLikeS.d1,C.I_i,C.L_l,e3,decide_true,jR,mtx_eq k0 (show k≤9000000000000000000 by omega),call1,jI,jX,jY,hg,e4,e5,w1 hi (show l.length<big by simp only[big];omega),List.length_set,set_get hic,List.set_set]
   simp[Lk.e,setCs,mkLk])
  (fun k c hc=>by simp[w_markPilotLikeS.d1,hc]) l [] k (by simp) (fun _ _=>trivial) (fun x _ k=>by simp only[mkLk];omega) h0 (by simp;omega)
 simp only[List.length_nil,jB,Int.natCast_zero] at h
 simp only[w_markPilotLikeS,w_markPilotLikeS.d3,apL,jC,jD,C.L_l]
 rw[h]
 simp[w_markPilotLikeS.d2]
end Go.Ev
namespace Go.Ev
theorem w64_up {k:Int} (h0:0≤k) (h1:k≤9000000000000000000):w64 (k+1)=k+1:=w64_of (by omega) (by omega)
theorem setCs_s (a:C) (l:List C) (n:Nat) (m:List C):setCs (a::l) (n+1) m=a::setCs l n m:=by
 have e:n+1+m.length=n+m.length+1:=by omega
 simp only[setCs,List.take_succ_cons,jA,e,List.drop_succ_cons]
theorem setCs_z (a x:C) (l:List C):setCs (a::l) 0 [x]=x::l:=rfl
theorem Int_add_one (k:Int) (n m:Nat) (h:m=n+1):k+n+1=k+m:=by omega
noncomputable def mkBt (b:Bt) (k:Int):Bt×Int:=
 (⟨mtx k,mtx (k+1),(mkAll mkStr b.marks (k+1+1)).1,(mkAll mkStr b.marks (k+1+1)).2,(mkAll mkStr b.marks (k+1+1)).2+1,((mkAll mkStr b.marks (k+1+1)).2+1+1).tmod 3==0⟩,(mkAll mkStr b.marks (k+1+1)).2+1+1+1)
theorem mkStr_up (l:List Str) (k:Int):k≤(mkAll mkStr l k).2∧(mkAll mkStr l k).2≤k+(l.length:Nat):=by
 have:=mkAll_up mkStr 1 l k (fun x _ k=>by simp only[mkStr];omega)
 omega
theorem mkLk_up (l:List Lk) (k:Int):k≤(mkAll mkLk l k).2∧(mkAll mkLk l k).2≤k+(l.length*2:Nat):=
 mkAll_up mkLk 2 l k (fun x _ k=>by simp only[mkLk];omega)
theorem w_markPilotBerthS_eq (l:List Bt) (k:Int) (hl:l.length≤1048576) (hm:∀b,b∈l→b.marks.length≤1048576) (h0:0≤k) (h1:k≤7000000000000000000):
  w_markPilotBerthS [.i k,.l (l.map Bt.e)]=some [.i (mkAll mkBt l k).2,.l ((mkAll mkBt l k).1.map Bt.e)]:=by
 have h:=mark_loop (K:=7900000000000000000) (P:=fun b:Bt=>b.marks.length≤1048576) (e:=Bt.e) mkBt 1048581 (body:=ap3 w_markPilotBerthS.d3) (n:=l.length) hl (by omega)
  (fun i x c k hx hi hc hg k0 k1=>by
   have hic:i<c.length:=by omega
   have e3:((i:Int)<(c.length:Int)):=by omega
   have hk:=mkStr_up x.marks (k+1+1)
   have hs:=w_markStringS_eq x.marks (k+1+1) hx (by omega) (by omega)
   simp (disch:=omega) only[apL,jC,jD,w_markPilotBerthS.d3,w_markPilotBerthS.d2,w_markPilotBerthS.d1,C.I_i,C.L_l,e3,decide_true,jR,mtx_eq,call1,call2,jI,jJ,jX,jY,hg,w64_up,List.length_set,set_get,List.set_set,Bt.e,setCs_s,setCs_z,hs]
   simp (disch:=omega) [Bt.e,setCs,mkBt,hs,w1,w64_up])
  (fun k c hc=>by simp[w_markPilotBerthS.d3,hc]) l [] k (by simp) hm (fun x hx k=>by have:=mkStr_up x.marks (k+1+1);have:=hm x hx;simp only[mkBt];omega) h0 (by simp;omega)
 simp only[List.length_nil,jB,Int.natCast_zero] at h
 simp only[w_markPilotBerthS,w_markPilotBerthS.d5,apL,jC,jD,C.L_l]
 rw[h]
 simp[w_markPilotBerthS.d4]
noncomputable def mkCp (c:Cp) (k:Int):Cp×Int:=
 (⟨mtx k,mtx (k+1),k+1+1,k+1+1+1,k+1+1+1+1,k+1+1+1+1+1,mtx (k+1+1+1+1+1+1),(mkAll mkLk c.likes (k+1+1+1+1+1+1+1)).1,(mkAll mkLk c.likes (k+1+1+1+1+1+1+1)).2,mtx ((mkAll mkLk c.likes (k+1+1+1+1+1+1+1)).2+1),mtx ((mkAll mkLk c.likes (k+1+1+1+1+1+1+1)).2+1+1),mtx ((mkAll mkLk c.likes (k+1+1+1+1+1+1+1)).2+1+1+1)⟩,(mkAll mkLk c.likes (k+1+1+1+1+1+1+1)).2+1+1+1+1)
theorem w_markPilotCopyS_eq (l:List Cp) (k:Int) (hl:l.length≤1048576) (hm:∀c,c∈l→c.likes.length≤1048576) (h0:0≤k) (h1:k≤7000000000000000000):
  w_markPilotCopyS [.i k,.l (l.map Cp.e)]=some [.i (mkAll mkCp l k).2,.l ((mkAll mkCp l k).1.map Cp.e)]:=by
 have h:=mark_loop (K:=7900000000000000000) (P:=fun c:Cp=>c.likes.length≤1048576) (e:=Cp.e) mkCp 2097170 (body:=ap3 w_markPilotCopyS.d5) (n:=l.length) hl (by omega)
  (fun i x c k hx hi hc hg k0 k1=>by
   have hic:i<c.length:=by omega
   have e3:((i:Int)<(c.length:Int)):=by omega
   have hk:=mkLk_up x.likes (k+1+1+1+1+1+1+1)
   have hs:=w_markPilotLikeS_eq x.likes (k+1+1+1+1+1+1+1) hx (by omega) (by omega)
   simp (disch:=omega) only[apL,jC,jD,w_markPilotCopyS.d5,w_markPilotCopyS.d4,w_markPilotCopyS.d3,w_markPilotCopyS.d2,w_markPilotCopyS.d1,C.I_i,C.L_l,e3,decide_true,jR,mtx_eq,call1,call2,jI,jJ,jX,jY,hg,w64_up,List.length_set,set_get,List.set_set,Cp.e,setCs_s,setCs_z,hs]
   simp (disch:=omega) [mkCp,w1,w64_up])
  (fun k c hc=>by simp[w_markPilotCopyS.d5,hc]) l [] k (by simp) hm (fun x hx k=>by have:=mkLk_up x.likes (k+1+1+1+1+1+1+1);have:=hm x hx;simp only[mkCp];omega) h0 (by simp;omega)
 simp only[List.length_nil,jB,Int.natCast_zero] at h
 simp only[w_markPilotCopyS,w_markPilotCopyS.d7,apL,jC,jD,C.L_l]
 rw[h]
 simp[w_markPilotCopyS.d6]
noncomputable def mkFl (f:Fl) (k:Int):Fl×Int:=
 (⟨f.pack,(mkAll mkBt f.bts k).1,(mkAll mkSv f.svs (mkAll mkBt f.bts k).2).1,(mkAll mkCp f.cps (mkAll mkSv f.svs (mkAll mkBt f.bts k).2).2).1⟩,(mkAll mkCp f.cps (mkAll mkSv f.svs (mkAll mkBt f.bts k).2).2).2)
theorem mkFl_up {f:Fl} (hz:f.Sz 1048576) {k:Int} (h0:0≤k):(k≤(mkAll mkBt f.bts k).2∧(mkAll mkBt f.bts k).2≤k+1099528000000)∧((mkAll mkBt f.bts k).2≤(mkAll mkSv f.svs (mkAll mkBt f.bts k).2).2∧(mkAll mkSv f.svs (mkAll mkBt f.bts k).2).2≤k+1099628000000)∧((mkAll mkSv f.svs (mkAll mkBt f.bts k).2).2≤(mkFl f k).2∧(mkFl f k).2≤k+9999999999999):=by
 have a:=mkAll_up mkBt 1048581 f.bts k (fun x hx k=>by have:=mkStr_up x.marks (k+1+1);have:=(hz.1.2 x hx).2.2.1;simp only[mkBt];omega)
 have b:=mkAll_up mkSv 2 f.svs (mkAll mkBt f.bts k).2 (fun x hx k=>by simp only[mkSv];omega)
 have c:=mkAll_up mkCp 2097170 f.cps (mkAll mkSv f.svs (mkAll mkBt f.bts k).2).2 (fun x hx k=>by have:=mkLk_up x.likes (k+1+1+1+1+1+1+1);have:=(hz.2.2.2 x hx).2.2.2.2.2.2.1;simp only[mkCp];omega)
 have:=hz.1.1;have:=hz.2.1.1;have:=hz.2.2.1
 have e1:f.bts.length*1048581≤1048576*1048581:=Nat.mul_le_mul_right _ hz.1.1
 have e3:f.cps.length*2097170≤1048576*2097170:=Nat.mul_le_mul_right _ hz.2.2.1
 simp only[mkFl]
 omega
theorem w_markPilotFleet_eq {f:Fl} (hz:f.Sz 1048576) {k:Int} (h0:0≤k) (h1:k≤1000000000000000000):
  w_markPilotFleet [.b f.pack,.i k,.l (f.bts.map Bt.e),.l (f.svs.map Sv.e),.l (f.cps.map Cp.e)]=some ([.i (mkFl f k).2,.l ((mkFl f k).1.bts.map Bt.e),.l ((mkFl f k).1.svs.map Sv.e),.l ((mkFl f k).1.cps.map Cp.e)]):=by
 obtain ⟨u1,u2,u3⟩:=mkFl_up hz h0
 have a:=w_markPilotBerthS_eq f.bts k hz.1.1 (fun x hx=>(hz.1.2 x hx).2.2.1) h0 (by omega)
 have b:=w_markPilotServiceS_eq f.svs (mkAll mkBt f.bts k).2 hz.2.1.1 (by omega) (by omega)
 have c:=w_markPilotCopyS_eq f.cps (mkAll mkSv f.svs (mkAll mkBt f.bts k).2).2 hz.2.2.1 (fun x hx=>(hz.2.2.2 x hx).2.2.2.2.2.2.1) (by omega) (by omega)
 simp only[w_markPilotFleet,w_markPilotFleet.d1,apL,jC,jD,C.L_l,a,b,c,call2,jI,jV,mkFl]
end Go.Ev
namespace Go.Ev
theorem rightOf_len {f:Fl} (hz:f.Sz 1048576):(rightOf f).length≤1048576:=by
 unfold rightOf
 cases validF f with
 |false=>simp
 |true=>exact Nat.le_trans (wrongL_len f _) hz.2.2.1
theorem FnExactPilotRight_true (f:Fl) (hz:f.Sz maxLen):w_FnExactPilotRight f.e=some [.b true]:=by
 have h1:=w_szPilotFleet_eq f 1048576 (by omega) (by omega) hz
 simp only[Fl.e,jA,jB] at h1
 simp only[w_FnExactPilotRight,w_FnExactPilotRight.d1,Fl.e,jA,jB,apL,jC,jD,C.S_s]
 rcases h1 with h|⟨n,n0,n1,hz',h⟩
 ·simp[h,call1]
 have hn:¬n<0:=by omega
 have t1:=w_toPilotFleet_eq f hz'
 have t3:=w_eqPilotFleet_eq f hz'
 have s1:=s_PilotRight_eq hz'
 have s2:=i_PilotRight_eq hz'
 have mk:=w_markPilotFleet_eq hz' (k:=1) (by omega) (by omega)
 obtain ⟨u1,u2,u3⟩:=mkFl_up hz' (k:=1) (by omega)
 have hm:¬(mkFl f 1).2<0:=by omega
 have hl:=rightOf_len hz'
 have e1:=w_eqStringS_eq (rightOf f) ⟨hl,fun _ _=>trivial⟩
 have m1:=w_markStringS_eq (rightOf f) 1 hl (by omega) (by omega)
 have m2:=w_heldStringS_eq (rightOf f) 1 hl (by omega) (by omega)
 have m3:=mkStr_up (rightOf f) 1
 have hm3:¬(mkAll mkStr (rightOf f) 1).2<0:=by omega
 simp only[Fl.e,jA,jB] at t1 t3 s1 s2
 simp only[h,t1,t3,s1,s2,mk,e1,m1,m2,call1,call2,call4,jI,jC,jD,C.I_i,C.L_l,C.B_b,C.S_s,hn,hm,hm3,decide_false,jS,jZ,ja,jR,bne_self_eq_false,jV]
end Go.Ev
namespace Go.Ev
theorem dec_list {α:Type} (e:α→List C) (P:α→Prop):∀(es:List (List C)),(∀r,r∈es→∃x,r=e x∧P x)→∃l:List α,es=l.map e∧∀x,x∈l→P x
 |[],_=>⟨[],rfl,fun x h=>by simp at h⟩
 |r::es,h=>by
  obtain ⟨x,rfl,hx⟩:=h r (by simp)
  obtain ⟨l,rfl,hl⟩:=dec_list e P es fun r hr=>h r (by simp[hr])
  exact ⟨x::l,rfl,fun y hy=>by
   rcases List.mem_cons.1 hy with rfl|hy
   ·exact hx
   ·exact hl y hy⟩
theorem db_rows {T:Tys} {e:TypeId} {d:TD} {c:C} (h:DB T (.sl e) c) (hd:tget T e=some d):∃es:List (List C),c=.l es∧es.length≤maxLen∧∀r,r∈es→r.length=d.cts.length∧∀(j:Nat) (c:C) (ct:CT),r[j]?=some c→d.cts[j]?=some ct→DB T ct c:=by
 cases h with
 |l e es h h1 h2=>exact ⟨es,rfl,h,fun r hr=>⟨h1 r d hr hd,fun j c ct=>h2 r d j c ct hr hd⟩⟩
theorem db_str {T:Tys} {c:C} (h:DB T .str c):∃s:Str,c=.s s∧s.size≤maxLen:=by cases h with|s x h=>exact ⟨x,rfl,h⟩
theorem db_int {T:Tys} {k:IntKind} {c:C} (h:DB T (.int k) c):∃n:Int,c=.i n:=by cases h with|i k n h=>exact ⟨n,rfl⟩
theorem db_bool {T:Tys} {c:C} (h:DB T .bool c):∃b:Bool,c=.b b:=by cases h with|b x=>exact ⟨x,rfl⟩
theorem db_strs {c:C} (h:DB T0 (.sl 9) c):∃l:List Str,c=.l (l.map sE)∧SsSz maxLen l:=by
 obtain ⟨es,rfl,hl,hr⟩:=db_rows h (d:=⟨.str,[.str],16⟩) rfl
 obtain ⟨l,rfl,h2⟩:=dec_list sE (fun s=>s.size≤maxLen) es fun r hr'=>by
  obtain ⟨h1,h2⟩:=hr r hr'
  match r,h1 with
  |[c],_=>
   obtain ⟨s,rfl,hs⟩:=db_str (h2 0 c .str rfl rfl)
   exact ⟨s,rfl,hs⟩
 exact ⟨l,rfl,by simpa using hl,h2⟩
theorem db_Bt {c:C} (h:DB T0 (.sl 63) c):∃l:List Bt,c=.l (l.map Bt.e)∧l.length≤maxLen∧∀x,x∈l→(fun x=>x.Sz maxLen) x:=by
 obtain ⟨es,rfl,hl,hr⟩:=db_rows h (d:=⟨(.st [(0,9),(1,9),(2,28),(3,3),(4,3),(5,4)]),[.str,.str,(.sl 9),(.int .i64),(.int .i64),.bool],80⟩) rfl
 obtain ⟨l,rfl,h2⟩:=dec_list Bt.e (fun x=>x.Sz maxLen) es fun r hr'=>by
  obtain ⟨h1,h2⟩:=hr r hr'
  match r,h1 with
  |[x0,x1,x2,x3,x4,x5],_=>
   obtain ⟨x0,rfl,sx0⟩:=db_str (h2 0 x0 _ rfl rfl)
   obtain ⟨x1,rfl,sx1⟩:=db_str (h2 1 x1 _ rfl rfl)
   obtain ⟨x2,rfl,zx2⟩:=db_strs (h2 2 x2 _ rfl rfl)
   obtain ⟨x3,rfl⟩:=db_int (h2 3 x3 _ rfl rfl)
   obtain ⟨x4,rfl⟩:=db_int (h2 4 x4 _ rfl rfl)
   obtain ⟨x5,rfl⟩:=db_bool (h2 5 x5 _ rfl rfl)
   exact ⟨⟨x0,x1,x2,x3,x4,x5⟩,rfl,⟨sx0,sx1,zx2⟩⟩
 exact ⟨l,rfl,by simpa using hl,h2⟩
theorem db_Sv {c:C} (h:DB T0 (.sl 66) c):∃l:List Sv,c=.l (l.map Sv.e)∧l.length≤maxLen∧∀x,x∈l→(fun x=>x.Sz maxLen) x:=by
 obtain ⟨es,rfl,hl,hr⟩:=db_rows h (d:=⟨(.st [(0,9),(1,3)]),[.str,(.int .i64)],24⟩) rfl
 obtain ⟨l,rfl,h2⟩:=dec_list Sv.e (fun x=>x.Sz maxLen) es fun r hr'=>by
  obtain ⟨h1,h2⟩:=hr r hr'
  match r,h1 with
  |[x0,x1],_=>
   obtain ⟨x0,rfl,sx0⟩:=db_str (h2 0 x0 _ rfl rfl)
   obtain ⟨x1,rfl⟩:=db_int (h2 1 x1 _ rfl rfl)
   exact ⟨⟨x0,x1⟩,rfl,sx0⟩
 exact ⟨l,rfl,by simpa using hl,h2⟩
theorem db_Lk {c:C} (h:DB T0 (.sl 113) c):∃l:List Lk,c=.l (l.map Lk.e)∧l.length≤maxLen∧∀x,x∈l→(fun x=>x.sel.size≤maxLen) x:=by
 obtain ⟨es,rfl,hl,hr⟩:=db_rows h (d:=⟨(.st [(0,9),(1,3)]),[.str,(.int .i64)],24⟩) rfl
 obtain ⟨l,rfl,h2⟩:=dec_list Lk.e (fun x=>x.sel.size≤maxLen) es fun r hr'=>by
  obtain ⟨h1,h2⟩:=hr r hr'
  match r,h1 with
  |[x0,x1],_=>
   obtain ⟨x0,rfl,sx0⟩:=db_str (h2 0 x0 _ rfl rfl)
   obtain ⟨x1,rfl⟩:=db_int (h2 1 x1 _ rfl rfl)
   exact ⟨⟨x0,x1⟩,rfl,sx0⟩
 exact ⟨l,rfl,by simpa using hl,h2⟩
theorem db_Cp {c:C} (h:DB T0 (.sl 70) c):∃l:List Cp,c=.l (l.map Cp.e)∧l.length≤maxLen∧∀x,x∈l→(fun x=>x.Sz maxLen) x:=by
 obtain ⟨es,rfl,hl,hr⟩:=db_rows h (d:=⟨(.st [(0,9),(1,9),(2,3),(3,3),(4,3),(5,3),(6,9),(7,68),(8,3),(9,9),(10,9),(11,9)]),[.str,.str,(.int .i64),(.int .i64),(.int .i64),(.int .i64),.str,(.sl 113),(.int .i64),.str,.str,.str],160⟩) rfl
 obtain ⟨l,rfl,h2⟩:=dec_list Cp.e (fun x=>x.Sz maxLen) es fun r hr'=>by
  obtain ⟨h1,h2⟩:=hr r hr'
  match r,h1 with
  |[x0,x1,x2,x3,x4,x5,x6,x7,x8,x9,x10,x11],_=>
   obtain ⟨x0,rfl,sx0⟩:=db_str (h2 0 x0 _ rfl rfl)
   obtain ⟨x1,rfl,sx1⟩:=db_str (h2 1 x1 _ rfl rfl)
   obtain ⟨x2,rfl⟩:=db_int (h2 2 x2 _ rfl rfl)
   obtain ⟨x3,rfl⟩:=db_int (h2 3 x3 _ rfl rfl)
   obtain ⟨x4,rfl⟩:=db_int (h2 4 x4 _ rfl rfl)
   obtain ⟨x5,rfl⟩:=db_int (h2 5 x5 _ rfl rfl)
   obtain ⟨x6,rfl,sx6⟩:=db_str (h2 6 x6 _ rfl rfl)
   obtain ⟨x7,rfl,zx7⟩:=db_Lk (h2 7 x7 _ rfl rfl)
   obtain ⟨x8,rfl⟩:=db_int (h2 8 x8 _ rfl rfl)
   obtain ⟨x9,rfl,sx9⟩:=db_str (h2 9 x9 _ rfl rfl)
   obtain ⟨x10,rfl,sx10⟩:=db_str (h2 10 x10 _ rfl rfl)
   obtain ⟨x11,rfl,sx11⟩:=db_str (h2 11 x11 _ rfl rfl)
   exact ⟨⟨x0,x1,x2,x3,x4,x5,x6,x7,x8,x9,x10,x11⟩,rfl,⟨sx0,sx1,sx6,sx9,sx10,sx11,zx7⟩⟩
 exact ⟨l,rfl,by simpa using hl,h2⟩
abbrev ctsFl:List CT:=[.bool,(.sl 63),(.sl 66),(.sl 70)]
theorem rd_Fl {w:World} {vs:List Value} {xs:List C} (h:Rd T0 w ctsFl vs xs):∃f:Fl,xs=f.e∧f.Sz maxLen:=by
 obtain ⟨h1,_,_,h2⟩:=h
 match xs,h1 with
 |[x0,x1,x2,x3],_=>
  obtain ⟨x0,rfl⟩:=db_bool (h2 0 x0 _ rfl rfl)
  obtain ⟨x1,rfl,zx1⟩:=db_Bt (h2 1 x1 _ rfl rfl)
  obtain ⟨x2,rfl,zx2⟩:=db_Sv (h2 2 x2 _ rfl rfl)
  obtain ⟨x3,rfl,zx3⟩:=db_Cp (h2 3 x3 _ rfl rfl)
  exact ⟨⟨x0,x1,x2,x3⟩,rfl,⟨zx1,zx2,zx3⟩⟩
end Go.Ev
