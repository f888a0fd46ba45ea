/- Proved here: the law FnExactPilotHarmCard of the given program answers true at every input, and leaves the input as it was; no condition. This text: lemmas on the way (an evaluator of the program's code, sound once for all; the functions it prints; plain proofs on these). -/
import Derived.Test.YtabnnbpnjenjkaaGreatDoorP3
set_option linter.all false
set_option autoImplicit false
set_option maxRecDepth 8000
namespace Go.Ev
def mapS (l:List Sv):Nat→List (List C)
 |0=>[]
 |i+1=>match l[i]? with
  |some s=>mset s.name (.b true) (mapS l i)
  |none=>mapS l i
theorem mapS_get (l:List Sv) (nm:Str):∀i,i≤l.length→(mget (.b false) nm (mapS l i)).B=(l.take i).any (fun s=>sEq s.name nm)
 |0,_=>rfl
 |i+1,h=>by
  have hi:i<l.length:=h
  rw[mapS,List.getElem?_eq_getElem hi]
  simp only
  rw[mget_mset,List.take_succ_eq_append_getElem hi,List.any_append,sEq_comm]
  have ih:=mapS_get l nm i (by omega)
  cases hq:sEq l[i].name nm with
  |true=>simp[hq]
  |false=>simp[hq,ih]
def mapC (l:List Cp):Nat→List (List C)
 |0=>[]
 |i+1=>match l[i]? with
  |some c=>mset c.at_ (.i (w64 ((mget (.i 0) c.at_ (mapC l i)).I+1))) (mapC l i)
  |none=>mapC l i
theorem mapC_get (l:List Cp) (hl:l.length<big) (nm:Str):∀i,i≤l.length→mget (.i 0) nm (mapC l i)=.i (standC l nm i:Nat)
 |0,_=>rfl
 |i+1,h=>by
  have hi:i<l.length:=h
  have ih:=mapC_get l hl nm i (by omega)
  have ih2:=mapC_get l hl l[i].at_ i (by omega)
  rw[mapC,standC,List.getElem?_eq_getElem hi]
  simp only
  rw[mget_mset,ih,ih2,sEq_comm]
  have hw:=w64n (n:=standC l l[i].at_ i) (by have:=standC_le l l[i].at_ i;omega)
  cases hq:sEq l[i].at_ nm with
  |true=>
   have:=(sEq_iff _ _).1 hq
   subst this
   simp only[jR,C.I_i,hw]
  |false=>rfl
section
variable {f:Fl} (hz:f.Sz 1048576)
include hz
theorem i_V1 (K:List C→R):bindBlk 0 (lim (ap7 i_PilotValid.d1) ([.l (f.bts.map Bt.e),.i (f.bts.length:Nat),.i 0]++f.e)) K=bif allFrom (btA f) 0 f.bts.length then K f.e else some (.ret [.b false]):=by
 have hl:f.bts.length<big:=by have:=hz.1.1;simp only[big];omega
 have h:=chk_loop (body:=ap7 i_PilotValid.d1) (S:=fun i=>[.l (f.bts.map Bt.e),.i (f.bts.length:Nat),.i (i:Nat)]++f.e) (p:=btA f) (n:=f.bts.length) (b:=0) (ys:=f.e) (r:=[.b false])
  (fun i hi=>by
   have hsz:=hz.1.2 _ (List.getElem_mem hi)
   have e3:((i:Int)<(f.bts.length:Int)):=by omega
   have hp:btA f i=(berthOk f.bts[i]&&(i==0||match f.bts[i-1]? with|some q=>sLt q.name f.bts[i].name|none=>true)):=by simp only[btA,List.getElem?_eq_getElem hi]<;>rfl
   have hb:=i_pBerthOk_eq f.bts[i] hsz
   simp only[Bt.e] at hb
   simp only[Fl.e,jA,jB,apL,jC,jD,i_PilotValid.d1,C.I_i,C.L_l,jW,jY,getD_map' Bt.e hi,e3,decide_true,jR,jX,w1 hi hl]
   simp only[Bt.e,jC,jD,hb,call1,jI,C.B_b,C.S_s,hp]
   cases berthOk f.bts[i] with
   |false=>simp
   |true=>
    rcases Nat.eq_zero_or_pos i with h0|h0
    ·subst h0;simp
    ·have hi1:i-1<f.bts.length:=by omega
     have hw:w64 ((i:Int)-1)=((i-1:Nat):Int):=by rw[w64_of (by omega) (by simp only[big] at hl;omega)];omega
     have e1:((i:Int)>0):=by omega
     have e2:(((i-1:Nat):Int)<(f.bts.length:Int)):=by omega
     have e4:(i==0)=false:=by simp;omega
     have hn0:(f.bts[i-1].e.getD 0 .nil).S=f.bts[i-1].name:=rfl
     simp only[hw,jY,getD_map' Bt.e hi1,e1,e2,e4,decide_true,jR,jX,List.getElem?_eq_getElem hi1,Bool.false_or,jZ,ja,jS,Bool.true_and,hn0,prev_not]
     cases sLt f.bts[i-1].name f.bts[i].name<;>simp)
  (by simp[i_PilotValid.d1,Fl.e]) f.bts.length 0 rfl
 simp only[Int.natCast_zero] at h
 rw[h]
 cases allFrom (btA f) 0 f.bts.length<;>simp
theorem i_V2 (K:List C→R):bindBlk 2 (lim (ap8 i_PilotValid.d2) ([.l (f.svs.map Sv.e),.i (f.svs.length:Nat),.i 0]++f.e++[.l []])) K=bif allFrom (svA f) 0 f.svs.length then K (f.e++[.l (mapS f.svs f.svs.length)]) else some (.ret [.b false]):=by
 have hl:f.svs.length<big:=by have:=hz.2.1.1;simp only[big];omega
 have h:=chk_loop (body:=ap8 i_PilotValid.d2) (S:=fun i=>[.l (f.svs.map Sv.e),.i (f.svs.length:Nat),.i (i:Nat)]++f.e++[.l (mapS f.svs i)]) (p:=svA f) (n:=f.svs.length) (b:=2) (ys:=f.e++[.l (mapS f.svs f.svs.length)]) (r:=[.b false])
  (fun i hi=>by
   have hsz:=hz.2.1.2 _ (List.getElem_mem hi)
   have e3:((i:Int)<(f.svs.length:Int)):=by omega
   have hp:svA f i=(nameOk f.svs[i].name&&((i==0||match f.svs[i-1]? with|some q=>sLt q.name f.svs[i].name|none=>true)&&within f.svs[i].spare 0 60)):=by simp only[svA,List.getElem?_eq_getElem hi]<;>rfl
   simp only[Fl.e,jA,jB,apL,jC,jD,i_PilotValid.d2,C.I_i,C.L_l,jW,jY,getD_map' Sv.e hi,w1 hi hl,e3,decide_true,jR,jX,hp,mapS,List.getElem?_eq_getElem hi]
   simp only[Sv.e,jC,jD,i_pName_eq _ hsz,i_within_eq,call1,jI,C.B_b,C.S_s]
   cases hn:nameOk f.svs[i].name with
   |false=>simp
   |true=>
    cases within f.svs[i].spare 0 60 with
    |false=>simp
    |true=>
     rcases Nat.eq_zero_or_pos i with h0|h0
     ·subst h0;simp
     ·have hi1:i-1<f.svs.length:=by omega
      have hw:w64 ((i:Int)-1)=((i-1:Nat):Int):=by rw[w64_of (by omega) (by simp only[big] at hl;omega)];omega
      have e1:((i:Int)>0):=by omega
      have e2:(((i-1:Nat):Int)<(f.svs.length:Int)):=by omega
      have e4:(i==0)=false:=by simp;omega
      have hn0:(f.svs[i-1].e.getD 0 .nil).S=f.svs[i-1].name:=rfl
      simp only[hw,jY,getD_map' Sv.e hi1,e1,e2,e4,decide_true,jR,jX,List.getElem?_eq_getElem hi1,Bool.false_or,jZ,ja,jS,Bool.true_and,hn0,prev_not]
      cases sLt f.svs[i-1].name f.svs[i].name<;>simp)
  (by simp[i_PilotValid.d2,Fl.e]) f.svs.length 0 rfl
 simp only[Int.natCast_zero,mapS] at h
 rw[h]
 cases allFrom (svA f) 0 f.svs.length<;>simp
theorem i_V3 (K:List C→R):bindBlk 4 (lim (ap9 i_PilotValid.d4) ([.l (f.cps.map Cp.e),.i (f.cps.length:Nat),.i 0]++f.e++[.l (mapS f.svs f.svs.length),.l []])) K=bif allFrom (cpA f) 0 f.cps.length then K (f.e++[.l (mapC f.cps f.cps.length)]) else some (.ret [.b false]):=by
 have hl:f.cps.length<big:=by have:=hz.2.2.1;simp only[big];omega
 have h:=chk_loop (body:=ap9 i_PilotValid.d4) (S:=fun i=>[.l (f.cps.map Cp.e),.i (f.cps.length:Nat),.i (i:Nat)]++f.e++[.l (mapS f.svs f.svs.length),.l (mapC f.cps i)]) (p:=cpA f) (n:=f.cps.length) (b:=4) (ys:=f.e++[.l (mapC f.cps f.cps.length)]) (r:=[.b false])
  (fun i hi=>by
   have hsz:=hz.2.2.2 _ (List.getElem_mem hi)
   have e3:((i:Int)<(f.cps.length:Int)):=by omega
   have hp:cpA f i=(copyOk f.cps[i]&&(f.svs.any (fun s=>sEq s.name f.cps[i].svc)&&((i==0||match f.cps[i-1]? with|some q=>sLt q.name f.cps[i].name|none=>true)&&(sEq f.cps[i].at_ (mkS [])||f.bts.any (fun b=>sEq b.name f.cps[i].at_))))):=by simp only[cpA,List.getElem?_eq_getElem hi]<;>rfl
   have hbt:=i_pBerthAt_eq f f.cps[i].at_ hz.1.1
   have hco:=i_pCopyOk_eq f.cps[i] hsz
   have q1:(f.cps[i].at_.toList==(bs #[]).toList)=sEq f.cps[i].at_ (mkS []):=rfl
   have hb1:decide (bIx f f.cps[i].at_<0)=!f.bts.any (fun b=>sEq b.name f.cps[i].at_):=findIx_any _ _ _
   have hsm:=mapS_get f.svs f.cps[i].svc f.svs.length (Nat.le_refl _)
   rw[List.take_length] at hsm
   simp only[Fl.e,jA,jB] at hbt
   simp only[Cp.e] at hco
   simp only[Fl.e,jA,jB,apL,jC,jD,i_PilotValid.d4,C.I_i,C.L_l,jW,jY,getD_map' Cp.e hi,e3,decide_true,jR,jX,hp]
   simp only[Cp.e,jC,jD,hco,hbt,call1,jI,C.B_b,C.S_s,C.I_i,q1,hb1,hsm]
   have hd3:∀(b:Bool),i_PilotValid.d3 (.l (f.cps.map Cp.e)) (.i (f.cps.length:Nat)) (.i (i:Nat)) (.b b) (.b f.pack) (.l (f.bts.map Bt.e)) (.l (f.svs.map Sv.e)) (.l (f.cps.map Cp.e)) (.l (mapS f.svs f.svs.length)) (.l (mapC f.cps i)) (.s f.cps[i].name) (.s f.cps[i].svc) (.i f.cps[i].rank) (.i f.cps[i].born) (.i f.cps[i].room) (.i f.cps[i].hold) (.s f.cps[i].sel) (.l (f.cps[i].likes.map Lk.e)) (.i f.cps[i].apart) (.s f.cps[i].near) (.s f.cps[i].fixed) (.s f.cps[i].at_)=bif b then some (.ret [.b false]) else some (.again [.l (f.cps.map Cp.e),.i (f.cps.length:Nat),.i (i+1:Nat),.b f.pack,.l (f.bts.map Bt.e),.l (f.svs.map Sv.e),.l (f.cps.map Cp.e),.l (mapS f.svs f.svs.length),.l (mapC f.cps (i+1))]):=fun b=>by
    simp only[i_PilotValid.d3,C.B_b,C.I_i,C.L_l,C.S_s,w1 hi hl,mapC,List.getElem?_eq_getElem hi]
   cases copyOk f.cps[i] with
   |false=>simp[hd3]
   |true=>
    cases f.svs.any (fun s=>sEq s.name f.cps[i].svc) with
    |false=>simp[hd3]
    |true=>
     rcases Nat.eq_zero_or_pos i with h0|h0
     ·subst h0
      simp only[Int.natCast_zero] at hd3
      cases sEq f.cps[0].at_ (mkS [])<;>cases f.bts.any (fun b=>sEq b.name f.cps[0].at_)<;>simp[hd3]
     ·have hi1:i-1<f.cps.length:=by omega
      have hw:w64 ((i:Int)-1)=((i-1:Nat):Int):=by rw[w64_of (by omega) (by simp only[big] at hl;omega)];omega
      have e1:((i:Int)>0):=by omega
      have e2:(((i-1:Nat):Int)<(f.cps.length:Int)):=by omega
      have e4:(i==0)=false:=by simp;omega
      have hn0:(f.cps[i-1].e.getD 0 .nil).S=f.cps[i-1].name:=rfl
      simp only[hw,jY,getD_map' Cp.e hi1,e1,e2,e4,decide_true,jR,jX,List.getElem?_eq_getElem hi1,Bool.false_or,jZ,ja,jS,Bool.true_and,hn0,prev_not]
      cases sLt f.cps[i-1].name f.cps[i].name<;>cases sEq f.cps[i].at_ (mkS [])<;>cases f.bts.any (fun b=>sEq b.name f.cps[i].at_)<;>simp[hd3])
  (by simp[i_PilotValid.d4,Fl.e]) f.cps.length 0 rfl
 simp only[Int.natCast_zero,mapC] at h
 rw[h]
 cases allFrom (cpA f) 0 f.cps.length<;>simp
theorem i_V4 (K:List C→R):bindBlk 6 (lim (ap8 i_PilotValid.d5) ([.l (f.bts.map Bt.e),.i (f.bts.length:Nat),.i 0]++f.e++[.l (mapC f.cps f.cps.length)])) K=bif allFrom (fitA f) 0 f.bts.length then K [] else some (.ret [.b false]):=by
 have hl:f.bts.length<big:=by have:=hz.1.1;simp only[big];omega
 have hlc:f.cps.length<big:=by have:=hz.2.2.1;simp only[big];omega
 have h:=chk_loop (body:=ap8 i_PilotValid.d5) (S:=fun i=>[.l (f.bts.map Bt.e),.i (f.bts.length:Nat),.i (i:Nat)]++f.e++[.l (mapC f.cps f.cps.length)]) (p:=fitA f) (n:=f.bts.length) (b:=6) (ys:=[]) (r:=[.b false])
  (fun i hi=>by
   have e3:((i:Int)<(f.bts.length:Int)):=by omega
   have hq:fitA f i=(decide ((used f f.bts[i].name).1≤f.bts[i].room)&&(decide ((used f f.bts[i].name).2≤f.bts[i].hold)&&decide (standC f.cps f.bts[i].name f.cps.length≤10))):=by simp[fitA,hi]
   have hu:=i_PilotUsed_eq f f.bts[i].name hz
   have hmc:=mapC_get f.cps hlc f.bts[i].name f.cps.length (Nat.le_refl _)
   have g1:decide ((used f f.bts[i].name).1>f.bts[i].room)=!decide ((used f f.bts[i].name).1≤f.bts[i].room):=by rw[←decide_not,decide_eq_decide];omega
   have g2:decide ((used f f.bts[i].name).2>f.bts[i].hold)=!decide ((used f f.bts[i].name).2≤f.bts[i].hold):=by rw[←decide_not,decide_eq_decide];omega
   have g3:decide ((standC f.cps f.bts[i].name f.cps.length:Int)>10)=!decide (standC f.cps f.bts[i].name f.cps.length≤10):=by rw[←decide_not,decide_eq_decide];omega
   simp only[Fl.e,jA,jB] at hu
   simp only[Fl.e,jA,jB,apL,jC,jD,i_PilotValid.d5,C.I_i,C.L_l,jW,jY,getD_map' Bt.e hi,e3,decide_true,jR,jX,w1 hi hl]
   simp only[Bt.e,jC,jD,hu,call2,jI,C.S_s,C.I_i,hmc,g1,g2,g3,hq,Bool.not_not]
   cases decide ((used f f.bts[i].name).1≤f.bts[i].room)<;>cases decide ((used f f.bts[i].name).2≤f.bts[i].hold)<;>cases decide (standC f.cps f.bts[i].name f.cps.length≤10)<;>simp)
  (by simp[i_PilotValid.d5,Fl.e]) f.bts.length 0 rfl
 simp only[Int.natCast_zero] at h
 rw[h]
 cases allFrom (fitA f) 0 f.bts.length<;>simp
theorem i_PilotValid_eq:i_PilotValid f.e=some [.b (validF f)]:=by
 have h1:=i_V1 hz (ap4 i_PilotValid.d9)
 have h2:=i_V2 hz (ap5 i_PilotValid.d8)
 have h3:=i_V3 hz (ap5 i_PilotValid.d7)
 have h4:=i_V4 hz (fun xs=>i_PilotValid.d6)
 simp only[Fl.e,jA,jB] at h1 h2 h3 h4
 have g1:decide ((f.bts.length:Int)>12)=!decide (f.bts.length≤12):=by rw[←decide_not,decide_eq_decide];omega
 have g2:decide ((f.svs.length:Int)>30)=!decide (f.svs.length≤30):=by rw[←decide_not,decide_eq_decide];omega
 have g3:decide ((f.cps.length:Int)>60)=!decide (f.cps.length≤60):=by rw[←decide_not,decide_eq_decide];omega
 simp only[i_PilotValid,i_PilotValid.d10,Fl.e,apL,jC,jD,C.L_l,jW,g1,g2,g3,Bool.not_not,h1,validF]
 cases decide (f.bts.length≤12) with
 |false=>simp
 |true=>
 cases decide (f.svs.length≤30) with
 |false=>simp
 |true=>
 cases decide (f.cps.length≤60) with
 |false=>simp
 |true=>
 cases hb:allFrom (btA f) 0 f.bts.length with
 |false=>simp
 |true=>
 simp only[jR,jZ,jS,Bool.true_and,i_PilotValid.d9,apL,jC,jD,C.L_l,jW,nils,h2]
 cases hs:allFrom (svA f) 0 f.svs.length with
 |false=>simp
 |true=>
 simp only[jR,Bool.true_and,i_PilotValid.d8,apL,jC,jD,C.L_l,jW,nils,h3]
 cases hc:allFrom (cpA f) 0 f.cps.length with
 |false=>simp
 |true=>
 simp only[jR,Bool.true_and,i_PilotValid.d7,apL,jC,jD,C.L_l,jW,h4]
 cases allFrom (fitA f) 0 f.bts.length<;>simp[i_PilotValid.d6]
end
end Go.Ev
namespace Go.Ev
theorem findIx_at {α:Type} (p:α→Bool):∀(l:List α) (n:Nat),findIx p l n<0∨∃i,∃h:i<l.length,findIx p l n=((n+i:Nat):Int)∧p l[i]=true
 |[],n=>.inl (by simp[findIx])
 |x::r,n=>by
  cases hx:p x with
  |true=>exact .inr ⟨0,by simp,by simp[findIx,hx],by simpa using hx⟩
  |false=>
   rcases findIx_at p r (n+1) with h|⟨i,h,h1,h2⟩
   ·exact .inl (by simpa [findIx,hx] using h)
   ·exact .inr ⟨i+1,by simpa using h,by simp[findIx,hx,h1];omega,by simpa using h2⟩
section
variable {f:Fl} {g:List Str} (hz:f.Sz 1048576) (hg:SsSz 1048576 g)
include hz hg
omit hz in
end
end Go.Ev
namespace Go.Ev
section
variable {ms:List Str} (hz:SsSz 1048576 ms)
include hz
end
end Go.Ev
namespace Go.Ev
end Go.Ev
namespace Go.Ev
theorem cIx_at (f:Fl) (nm:Str):cIx f nm<0∨∃k,∃h:k<f.cps.length,cIx f nm=(k:Nat)∧sEq f.cps[k].name nm=true:=by
 rcases findIx_at (fun x:Cp=>sEq x.name nm) f.cps 0 with h|⟨k,hk,h1,h2⟩
 ·exact .inl h
 ·exact .inr ⟨k,hk,by rw[←Nat.zero_add k];exact h1,h2⟩
section
variable {f:Fl} (hz:f.Sz 1048576) {c:Cp} (hc:c.Sz 1048576) {b:Bt} (hb:b.Sz 1048576) (hbo:berthOk b=true)
include hz hc hb hbo
end
end Go.Ev
namespace Go.Ev
structure VB (f:Fl):Prop where
 n60:f.cps.length≤60
 cb:∀x,x∈f.cps→(0≤x.room∧x.room≤1000)∧(0≤x.hold∧x.hold≤1000)∧(0≤x.apart∧x.apart≤2)∧(0≤x.rank∧x.rank≤100)∧(0≤x.born∧x.born≤1000000)
 bb:∀b,b∈f.bts→berthOk b=true
section
variable {f:Fl} (hz:f.Sz 1048576) {c:Cp} (hc:c.Sz 1048576) {b:Bt} (hb:b.Sz 1048576) (hbo:berthOk b=true)
include hz hc hb hbo
end
section
variable {f:Fl} (hz:f.Sz 1048576) (cn bn_:Str)
include hz
end
end Go.Ev
namespace Go.Ev
end Go.Ev
namespace Go.Ev
section
variable {f:Fl} (hz:f.Sz 1048576) {c:Cp} (hc:c.Sz 1048576) {b:Bt} (hb:b.Sz 1048576) (hbo:berthOk b=true)
include hz hc hb hbo
end
end Go.Ev
namespace Go.Ev
section
variable {f:Fl} (hz:f.Sz 1048576) {c:Cp} (hc:c.Sz 1048576) {b:Bt} (hb:b.Sz 1048576) (hbo:berthOk b=true)
include hz hc hb hbo
end
end Go.Ev
namespace Go.Ev
section
variable {f:Fl} (hz:f.Sz 1048576) (cn bn_:Str)
include hz
end
section
variable {f:Fl} (hz:f.Sz 1048576) {c:Cp} (hc:c.Sz 1048576) (hv:VB f) (hr:0≤c.room∧c.room≤1000) (hh:0≤c.hold∧c.hold≤1000) (ha:0≤c.apart∧c.apart≤2)
include hz hc hv hr hh ha
end
end Go.Ev
namespace Go.Ev
section
variable {f:Fl} (hz:f.Sz 1048576) {c:Cp} (hc:c.Sz 1048576) (hv:VB f) (hr:0≤c.room∧c.room≤1000) (hh:0≤c.hold∧c.hold≤1000) (ha:0≤c.apart∧c.apart≤2)
include hz hc hv hr hh ha
end
section
variable {f:Fl} (hz:f.Sz 1048576) (cn:Str)
include hz
end
end Go.Ev
namespace Go.Ev
section
variable {f:Fl} (hz:f.Sz 1048576)
include hz
end
end Go.Ev
namespace Go.Ev
def mkAll {α:Type} (mk:α→Int→α×Int):List α→Int→List α×Int
 |[],k=>([],k)
 |x::r,k=>((mk x k).1::(mkAll mk r (mk x k).2).1,(mkAll mk r (mk x k).2).2)
theorem mkAll_len {α:Type} (mk:α→Int→α×Int):∀(l:List α) (k:Int),(mkAll mk l k).1.length=l.length
 |[],_=>rfl
 |x::r,k=>by simp[mkAll,mkAll_len mk r]
theorem mkAll_up {α:Type} (mk:α→Int→α×Int) (D:Nat):∀(l:List α) (k:Int),(∀x,x∈l→∀k,k≤(mk x k).2∧(mk x k).2≤k+D)→k≤(mkAll mk l k).2∧(mkAll mk l k).2≤k+(l.length*D:Nat)
 |[],k,_=>by simp[mkAll]
 |x::r,k,h=>by
  have h1:=h x (by simp) k
  have h2:=mkAll_up mk D r (mk x k).2 fun y hy=>h y (by simp[hy])
  simp only[mkAll,List.length_cons,Nat.succ_mul]
  omega
theorem mark_loop {α:Type} {e:α→List C} {P:α→Prop} {K:Int} (mk:α→Int→α×Int) (D:Nat) {body:List C→R} {n:Nat} (hn:n≤1048576) (hD:D≤4294967296)
  (hb:∀(i:Nat) (x:α) (c:List (List C)) (k:Int),P x→i<n→c.length=n→c.getD i []=e x→0≤k→k≤K→body [.i k,.i i,.l c]=some (.again [.i (mk x k).2,.i (i+1:Nat),.l (c.set i (e (mk x k).1))]))
  (he:∀(k:Int) (c:List (List C)),c.length=n→body [.i k,.i n,.l c]=some (.brk 0 [.i k,.l c])):
  ∀(r:List α) (p:List (List C)) (k:Int),p.length+r.length=n→(∀x,x∈r→P x)→(∀x,x∈r→∀k,k≤(mk x k).2∧(mk x k).2≤k+D)→0≤k→k+(r.length*D:Nat)≤K→
   lim body [.i k,.i p.length,.l (p++r.map e)]=some (.brk 0 [.i (mkAll mk r k).2,.l (p++(mkAll mk r k).1.map e)])
 |[],p,k,h,_,_,_,_=>by
  simp only[List.length_nil,Nat.add_zero] at h
  have:=he k (p++([]:List α).map e) (by simp[h])
  rw[h]
  exact lim_brk this
 |x::r,p,k,h,hp,hm,k0,k1=>by
  simp only[List.length_cons,Nat.succ_mul] at h k1
  have hx:=hm x (by simp) k
  have hc:(p++(x::r).map e).length=n:=by simp;omega
  have hg:(p++(x::r).map e).getD p.length []=e x:=by
   rw[List.getD_eq_getElem?_getD,List.getElem?_append_right (Nat.le_refl _),Nat.sub_self];rfl
  have h1:=hb p.length x _ k (hp x (by simp)) (by omega) hc hg k0 (by omega)
  rw[lim_again h1]
  have hs:(p++(x::r).map e).set p.length (e (mk x k).1)=(p++[e (mk x k).1])++r.map e:=by
   rw[List.set_append_right _ _ (Nat.le_refl _),Nat.sub_self,List.map_cons,List.set_cons_zero,List.append_assoc];rfl
  have ih:=mark_loop mk D hn hD hb he r (p++[e (mk x k).1]) (mk x k).2 (by simp;omega) (fun y hy=>hp y (by simp[hy])) (fun y hy=>hm y (by simp[hy])) (by omega) (by omega)
  rw[List.length_append,List.length_singleton] at ih
  rw[hs,ih]
  simp[mkAll]
end Go.Ev
namespace Go.Ev
theorem mkBy1 (x:C):(mkBy [[x]]).size=1:=rfl
theorem mt_loop:∀(d:Nat) (k:Int) (o:Str),0≤k→k<10^d→k≤9000000000000000000→o.size+d≤1000→∃s:Str,lim (ap2 w_markText.d1) [.i k,.s o]=some (.brk 0 [.s s])∧s.size≤o.size+d
 |0,k,o,h0,h1,_,h2=>by
  have:k=0:=by simp at h1;omega
  subst this
  exact ⟨o,lim_brk (by simp[w_markText.d1]),by omega⟩
 |d+1,k,o,h0,h1,h3,h2=>by
  by_cases hk:k>0
  ·have e1:w64 (k.tdiv 10)=k/10:=by
    have:k.tdiv 10=k/10:=Int.tdiv_eq_ediv_of_nonneg h0
    rw[this,w64_of (by omega) (by omega)]
   have hs:((mkBy [[C.i (IntKind.wrap .u8 (w64 (48+k.tmod 10)))]])++o).size=1+o.size:=by rw[ByteArray.size_append,mkBy1]
   obtain ⟨s,h4,h5⟩:=mt_loop d (k/10) ((mkBy [[C.i (IntKind.wrap .u8 (w64 (48+k.tmod 10)))]])++o) (by omega) (by rw[Int.pow_succ] at h1;omega) (by omega) (by omega)
   refine ⟨s,?_,by omega⟩
   rw[←h4]
   refine lim_again ?_
   have:(mkBy [[C.i (IntKind.wrap .u8 (w64 (48+k.tmod 10)))]]).size+o.size≤4294967296:=by rw[mkBy1];omega
   simp only[w_markText.d1,apL,jC,jD,C.I_i,C.S_s,hk,decide_true,jR,e1,this]
  ·have:k=0:=by omega
   subst this
   exact ⟨o,lim_brk (by simp[w_markText.d1]),by omega⟩
noncomputable def mtx (k:Int):Str:=match w_markText [.i k] with|some [.s s]=>s|_=>mkS []
theorem mtx_eq {k:Int} (h0:0≤k) (h1:k≤9000000000000000000):w_markText [.i k]=some [.s (mtx k)]:=by
 have key:∃s,w_markText [.i k]=some [.s s]:=by
  by_cases hk:k≤0
  ·exact ⟨bs #[109,48],by simp only[w_markText,w_markText.d3,apL,jC,C.I_i,hk,decide_true,jR,jV]⟩
  ·obtain ⟨s,h2,h3⟩:=mt_loop 19 k (bs #[]) h0 (by omega) h1 (by decide)
   have h3:s.size≤19:=by have e:(bs #[]).size=0:=rfl;omega
   have:(bs #[109]).size+s.size≤4294967296:=by have:(bs #[109]).size=1:=rfl;omega
   exact ⟨bs #[109]++s,by simp only[w_markText,w_markText.d3,apL,jC,C.I_i,hk,decide_false,jS,h2,bindBlk_self,w_markText.d2,C.S_s,this,decide_true,jR,jV]⟩
 obtain ⟨s,h⟩:=key
 rw[h]
 simp[mtx,h]
end Go.Ev
namespace Go.Ev
noncomputable def mkStr (_:Str) (k:Int):Str×Int:=(mtx k,k+1)
theorem w_markStringS_eq (l:List Str) (k:Int) (hl:l.length≤1048576) (h0:0≤k) (h1:k≤8000000000000000000):
  w_markStringS [.i k,.l (l.map sE)]=some [.i (mkAll mkStr l k).2,.l ((mkAll mkStr l k).1.map sE)]:=by
 have h:=mark_loop (K:=8500000000000000000) (P:=fun _=>True) (e:=sE) mkStr 1 (body:=ap3 w_markStringS.d1) (n:=l.length) hl (by omega)
  (fun i x c k _ hi hc hg k0 k1=>by
   have e3:((i:Int)<(c.length:Int)):=by omega
   have e4:w64 (k+1)=k+1:=w64_of (by omega) (by omega)
   simp only[apL,jC,jD,w_markStringS.d1,C.I_i,C.L_l,e3,decide_true,jR,mtx_eq k0 (show k≤9000000000000000000 by omega),call1,jI,jX,jY,hg,e4,w1 hi (show l.length<big by simp only[big];omega)]
   simp[sE,setCs,mkStr])
  (fun k c hc=>by simp[w_markStringS.d1,hc]) l [] k (by simp) (fun _ _=>trivial) (fun x _ k=>by simp only[mkStr];omega) h0 (by simp;omega)
 simp only[List.length_nil,jB,Int.natCast_zero] at h
 simp only[w_markStringS,w_markStringS.d3,apL,jC,jD,C.L_l]
 rw[h]
 simp[w_markStringS.d2]
theorem held_loop {α:Type} {e:α→List C} {P:α→Prop} (mk:α→Int→α×Int) (D:Nat) {body:List C→R} {n:Nat} {L:List (List C)} {K:Int} (hn:n≤1048576) (hD:D≤4294967296)
  (hb:∀(i:Nat) (x:α) (k:Int),P x→i<n→L.getD i []=e (mk x k).1→0≤k→k≤K→body [.l L,.i k,.i i]=some (.again [.l L,.i (mk x k).2,.i (i+1:Nat)]))
  (he:∀(k:Int),body [.l L,.i k,.i n]=some (.brk 0 [.i k])):
  ∀(r:List α) (p:List (List C)) (k:Int),L=p++(mkAll mk r k).1.map e→p.length+r.length=n→(∀x,x∈r→P x)→(∀x,x∈r→∀k,k≤(mk x k).2∧(mk x k).2≤k+D)→0≤k→k+(r.length*D:Nat)≤K→
   lim body [.l L,.i k,.i p.length]=some (.brk 0 [.i (mkAll mk r k).2])
 |[],p,k,_,h,_,_,_,_=>by
  simp only[List.length_nil,Nat.add_zero] at h
  rw[h]
  exact lim_brk (he k)
 |x::r,p,k,hL,h,hp,hm,k0,k1=>by
  simp only[List.length_cons,Nat.succ_mul] at h k1
  have hx:=hm x (by simp) k
  have hg:L.getD p.length []=e (mk x k).1:=by
   rw[hL,List.getD_eq_getElem?_getD,List.getElem?_append_right (Nat.le_refl _),Nat.sub_self];rfl
  rw[lim_again (hb p.length x k (hp x (by simp)) (by omega) hg k0 (by omega))]
  have ih:=held_loop mk D hn hD hb he r (p++[e (mk x k).1]) (mk x k).2 (by rw[hL];simp[mkAll]) (by simp;omega) (fun y hy=>hp y (by simp[hy])) (fun y hy=>hm y (by simp[hy])) (by omega) (by omega)
  rw[List.length_append,List.length_singleton] at ih
  rw[ih]
  simp[mkAll]
end Go.Ev
namespace Go.Ev
theorem set_get {α:Type} {c:List (List α)} {i:Nat} (h:i<c.length) (r:List α):(c.set i r).getD i []=r:=by
 rw[List.getD_eq_getElem?_getD,List.getElem?_set_self h];rfl
noncomputable def mkSv (_:Sv) (k:Int):Sv×Int:=(⟨mtx k,k+1⟩,k+2)
noncomputable def mkLk (_:Lk) (k:Int):Lk×Int:=(⟨mtx k,k+1⟩,k+2)
theorem w_markPilotServiceS_eq (l:List Sv) (k:Int) (hl:l.length≤1048576) (h0:0≤k) (h1:k≤8000000000000000000):
  w_markPilotServiceS [.i k,.l (l.map Sv.e)]=some [.i (mkAll mkSv l k).2,.l ((mkAll mkSv l k).1.map Sv.e)]:=by
 have h:=mark_loop (K:=8500000000000000000) (P:=fun _=>True) (e:=Sv.e) mkSv 2 (body:=ap3 w_markPilotServiceS.d1) (n:=l.length) hl (by omega)
  (fun i x c k _ hi hc hg k0 k1=>by
   have hic:i<c.length:=by omega
   have e3:((i:Int)<(c.length:Int)):=by omega
   have e4:w64 (k+1)=k+1:=w64_of (by omega) (by omega)
   have e5:w64 (k+1+1)=k+2:=by rw[w64_of (by omega) (by omega)];omega
   simp only[apL,jC,jD,w_markPilotServiceS.d1,C.I_i,C.L_l,e3,decide_true,jR,mtx_eq k0 (show k≤9000000000000000000 by omega),call1,jI,jX,jY,hg,e4,e5,w1 hi (show l.length<big by simp only[big];omega),List.length_set,set_get hic,List.set_set]
   simp[Sv.e,setCs,mkSv])
  (fun k c hc=>by simp[w_markPilotServiceS.d1,hc]) l [] k (by simp) (fun _ _=>trivial) (fun x _ k=>by simp only[mkSv];omega) h0 (by simp;omega)
 simp only[List.length_nil,jB,Int.natCast_zero] at h
 simp only[w_markPilotServiceS,w_markPilotServiceS.d3,apL,jC,jD,C.L_l]
 rw[h]
 simp[w_markPilotServiceS.d2]
theorem w_markPilotLikeS_eq (l:List Lk) (k:Int) (hl:l.length≤1048576) (h0:0≤k) (h1:k≤8000000000000000000):
  w_markPilotLikeS [.i k,.l (l.map Lk.e)]=some [.i (mkAll mkLk l k).2,.l ((mkAll mkLk l k).1.map Lk.e)]:=by
 have h:=mark_loop (K:=8500000000000000000) (P:=fun _=>True) (e:=Lk.e) mkLk 2 (body:=ap3 w_markPilotLikeS.d1) (n:=l.length) hl (by omega)
  (fun i x c k _ hi hc hg k0 k1=>by
   have hic:i<c.length:=by omega
   have e3:((i:Int)<(c.length:Int)):=by omega
   have e4:w64 (k+1)=k+1:=w64_of (by omega) (by omega)
   have e5:w64 (k+1+1)=k+2:=by rw[w64_of (by omega) (by omega)];omega
   simp only[apL,jC,jD,w_markPilotLikeS.d1,C.I_i,C.L_l,e3,decide_true,jR,mtx_eq k0 (show k≤9000000000000000000 by omega),call1,jI,jX,jY,hg,e4,e5,w1 hi (show l.length<big by simp only[big];omega),List.length_set,set_get hic,List.set_set]
   simp[Lk.e,setCs,mkLk])
  (fun k c hc=>by simp[w_markPilotLikeS.d1,hc]) l [] k (by simp) (fun _ _=>trivial) (fun x _ k=>by simp only[mkLk];omega) h0 (by simp;omega)
 simp only[List.length_nil,jB,Int.natCast_zero] at h
 simp only[w_markPilotLikeS,w_markPilotLikeS.d3,apL,jC,jD,C.L_l]
 rw[h]
 simp[w_markPilotLikeS.d2]
end Go.Ev
namespace Go.Ev
theorem w64_up {k:Int} (h0:0≤k) (h1:k≤9000000000000000000):w64 (k+1)=k+1:=w64_of (by omega) (by omega)
theorem setCs_s (a:C) (l:List C) (n:Nat) (m:List C):setCs (a::l) (n+1) m=a::setCs l n m:=by
 have e:n+1+m.length=n+m.length+1:=by omega
 simp only[setCs,List.take_succ_cons,jA,e,List.drop_succ_cons]
theorem setCs_z (a x:C) (l:List C):setCs (a::l) 0 [x]=x::l:=rfl
noncomputable def mkBt (b:Bt) (k:Int):Bt×Int:=
 (⟨mtx k,mtx (k+1),(mkAll mkStr b.marks (k+1+1)).1,(mkAll mkStr b.marks (k+1+1)).2,(mkAll mkStr b.marks (k+1+1)).2+1,((mkAll mkStr b.marks (k+1+1)).2+1+1).tmod 3==0⟩,(mkAll mkStr b.marks (k+1+1)).2+1+1+1)
theorem mkStr_up (l:List Str) (k:Int):k≤(mkAll mkStr l k).2∧(mkAll mkStr l k).2≤k+(l.length:Nat):=by
 have:=mkAll_up mkStr 1 l k (fun x _ k=>by simp only[mkStr];omega)
 omega
theorem mkLk_up (l:List Lk) (k:Int):k≤(mkAll mkLk l k).2∧(mkAll mkLk l k).2≤k+(l.length*2:Nat):=
 mkAll_up mkLk 2 l k (fun x _ k=>by simp only[mkLk];omega)
theorem w_markPilotBerthS_eq (l:List Bt) (k:Int) (hl:l.length≤1048576) (hm:∀b,b∈l→b.marks.length≤1048576) (h0:0≤k) (h1:k≤7000000000000000000):
  w_markPilotBerthS [.i k,.l (l.map Bt.e)]=some [.i (mkAll mkBt l k).2,.l ((mkAll mkBt l k).1.map Bt.e)]:=by
 have h:=mark_loop (K:=7900000000000000000) (P:=fun b:Bt=>b.marks.length≤1048576) (e:=Bt.e) mkBt 1048581 (body:=ap3 w_markPilotBerthS.d3) (n:=l.length) hl (by omega)
  (fun i x c k hx hi hc hg k0 k1=>by
   have hic:i<c.length:=by omega
   have e3:((i:Int)<(c.length:Int)):=by omega
   have hk:=mkStr_up x.marks (k+1+1)
   have hs:=w_markStringS_eq x.marks (k+1+1) hx (by omega) (by omega)
   simp (disch:=omega) only[apL,jC,jD,w_markPilotBerthS.d3,w_markPilotBerthS.d2,w_markPilotBerthS.d1,C.I_i,C.L_l,e3,decide_true,jR,mtx_eq,call1,call2,jI,jJ,jX,jY,hg,w64_up,List.length_set,set_get,List.set_set,Bt.e,setCs_s,setCs_z,hs]
   simp (disch:=omega) [Bt.e,setCs,mkBt,hs,w1,w64_up])
  (fun k c hc=>by simp[w_markPilotBerthS.d3,hc]) l [] k (by simp) hm (fun x hx k=>by have:=mkStr_up x.marks (k+1+1);have:=hm x hx;simp only[mkBt];omega) h0 (by simp;omega)
 simp only[List.length_nil,jB,Int.natCast_zero] at h
 simp only[w_markPilotBerthS,w_markPilotBerthS.d5,apL,jC,jD,C.L_l]
 rw[h]
 simp[w_markPilotBerthS.d4]
noncomputable def mkCp (c:Cp) (k:Int):Cp×Int:=
 (⟨mtx k,mtx (k+1),k+1+1,k+1+1+1,k+1+1+1+1,k+1+1+1+1+1,mtx (k+1+1+1+1+1+1),(mkAll mkLk c.likes (k+1+1+1+1+1+1+1)).1,(mkAll mkLk c.likes (k+1+1+1+1+1+1+1)).2,mtx ((mkAll mkLk c.likes (k+1+1+1+1+1+1+1)).2+1),mtx ((mkAll mkLk c.likes (k+1+1+1+1+1+1+1)).2+1+1),mtx ((mkAll mkLk c.likes (k+1+1+1+1+1+1+1)).2+1+1+1)⟩,(mkAll mkLk c.likes (k+1+1+1+1+1+1+1)).2+1+1+1+1)
theorem w_markPilotCopyS_eq (l:List Cp) (k:Int) (hl:l.length≤1048576) (hm:∀c,c∈l→c.likes.length≤1048576) (h0:0≤k) (h1:k≤7000000000000000000):
  w_markPilotCopyS [.i k,.l (l.map Cp.e)]=some [.i (mkAll mkCp l k).2,.l ((mkAll mkCp l k).1.map Cp.e)]:=by
 have h:=mark_loop (K:=7900000000000000000) (P:=fun c:Cp=>c.likes.length≤1048576) (e:=Cp.e) mkCp 2097170 (body:=ap3 w_markPilotCopyS.d5) (n:=l.length) hl (by omega)
  (fun i x c k hx hi hc hg k0 k1=>by
   have hic:i<c.length:=by omega
   have e3:((i:Int)<(c.length:Int)):=by omega
   have hk:=mkLk_up x.likes (k+1+1+1+1+1+1+1)
   have hs:=w_markPilotLikeS_eq x.likes (k+1+1+1+1+1+1+1) hx (by omega) (by omega)
   simp (disch:=omega) only[apL,jC,jD,w_markPilotCopyS.d5,w_markPilotCopyS.d4,w_markPilotCopyS.d3,w_markPilotCopyS.d2,w_markPilotCopyS.d1,C.I_i,C.L_l,e3,decide_true,jR,mtx_eq,call1,call2,jI,jJ,jX,jY,hg,w64_up,List.length_set,set_get,List.set_set,Cp.e,setCs_s,setCs_z,hs]
   simp (disch:=omega) [mkCp,w1,w64_up])
  (fun k c hc=>by simp[w_markPilotCopyS.d5,hc]) l [] k (by simp) hm (fun x hx k=>by have:=mkLk_up x.likes (k+1+1+1+1+1+1+1);have:=hm x hx;simp only[mkCp];omega) h0 (by simp;omega)
 simp only[List.length_nil,jB,Int.natCast_zero] at h
 simp only[w_markPilotCopyS,w_markPilotCopyS.d7,apL,jC,jD,C.L_l]
 rw[h]
 simp[w_markPilotCopyS.d6]
noncomputable def mkFl (f:Fl) (k:Int):Fl×Int:=
 (⟨f.pack,(mkAll mkBt f.bts k).1,(mkAll mkSv f.svs (mkAll mkBt f.bts k).2).1,(mkAll mkCp f.cps (mkAll mkSv f.svs (mkAll mkBt f.bts k).2).2).1⟩,(mkAll mkCp f.cps (mkAll mkSv f.svs (mkAll mkBt f.bts k).2).2).2)
theorem mkFl_up {f:Fl} (hz:f.Sz 1048576) {k:Int} (h0:0≤k):(k≤(mkAll mkBt f.bts k).2∧(mkAll mkBt f.bts k).2≤k+1099528000000)∧((mkAll mkBt f.bts k).2≤(mkAll mkSv f.svs (mkAll mkBt f.bts k).2).2∧(mkAll mkSv f.svs (mkAll mkBt f.bts k).2).2≤k+1099628000000)∧((mkAll mkSv f.svs (mkAll mkBt f.bts k).2).2≤(mkFl f k).2∧(mkFl f k).2≤k+9999999999999):=by
 have a:=mkAll_up mkBt 1048581 f.bts k (fun x hx k=>by have:=mkStr_up x.marks (k+1+1);have:=(hz.1.2 x hx).2.2.1;simp only[mkBt];omega)
 have b:=mkAll_up mkSv 2 f.svs (mkAll mkBt f.bts k).2 (fun x hx k=>by simp only[mkSv];omega)
 have c:=mkAll_up mkCp 2097170 f.cps (mkAll mkSv f.svs (mkAll mkBt f.bts k).2).2 (fun x hx k=>by have:=mkLk_up x.likes (k+1+1+1+1+1+1+1);have:=(hz.2.2.2 x hx).2.2.2.2.2.2.1;simp only[mkCp];omega)
 have:=hz.1.1;have:=hz.2.1.1;have:=hz.2.2.1
 have e1:f.bts.length*1048581≤1048576*1048581:=Nat.mul_le_mul_right _ hz.1.1
 have e3:f.cps.length*2097170≤1048576*2097170:=Nat.mul_le_mul_right _ hz.2.2.1
 simp only[mkFl]
 omega
theorem w_markPilotFleet_eq {f:Fl} (hz:f.Sz 1048576) {k:Int} (h0:0≤k) (h1:k≤1000000000000000000):
  w_markPilotFleet [.b f.pack,.i k,.l (f.bts.map Bt.e),.l (f.svs.map Sv.e),.l (f.cps.map Cp.e)]=some ([.i (mkFl f k).2,.l ((mkFl f k).1.bts.map Bt.e),.l ((mkFl f k).1.svs.map Sv.e),.l ((mkFl f k).1.cps.map Cp.e)]):=by
 obtain ⟨u1,u2,u3⟩:=mkFl_up hz h0
 have a:=w_markPilotBerthS_eq f.bts k hz.1.1 (fun x hx=>(hz.1.2 x hx).2.2.1) h0 (by omega)
 have b:=w_markPilotServiceS_eq f.svs (mkAll mkBt f.bts k).2 hz.2.1.1 (by omega) (by omega)
 have c:=w_markPilotCopyS_eq f.cps (mkAll mkSv f.svs (mkAll mkBt f.bts k).2).2 hz.2.2.1 (fun x hx=>(hz.2.2.2 x hx).2.2.2.2.2.2.1) (by omega) (by omega)
 simp only[w_markPilotFleet,w_markPilotFleet.d1,apL,jC,jD,C.L_l,a,b,c,call2,jI,jV,mkFl]
end Go.Ev
namespace Go.Ev
end Go.Ev
namespace Go.Ev
theorem ltL {i n:Nat} (h:i<n):decide ((i:Int)<(n:Int))=true:=by simp;omega
end Go.Ev
namespace Go.Ev
section
variable {f:Fl} (hz:f.Sz 1048576)
include hz
end
end Go.Ev
namespace Go.Ev
theorem getD_of {α:Type} (e:α→List C) {l:List α} {i:Nat} {x:α} (h:l[i]?=some x):(l.map e).getD i []=e x:=by
 rw[List.getD_eq_getElem?_getD,List.getElem?_map,h];rfl
section
variable {f:Fl} (hz:f.Sz 1048576) (g:List Str) (hg:g.length≤1048576)
include hz hg
end
end Go.Ev
namespace Go.Ev
structure Sp where
 copy:Str
 berth:Str
 gone:List Str
def Sp.e (s:Sp):List C:=[.s s.copy,.s s.berth,.l (s.gone.map sE)]
def Sp.Sz (K:Nat) (s:Sp):Prop:=s.copy.size≤K∧s.berth.size≤K∧SsSz K s.gone
section
variable {f:Fl} (hz:f.Sz 1048576) {s:Sp} (hs:s.Sz 1048576)
include hz hs
end
end Go.Ev
namespace Go.Ev
end Go.Ev
namespace Go.Ev
def insN (r:Int) (l:List Int):Nat:=(l.takeWhile fun x=>decide (x≥r)).length
def insD (r:Int) (l:List Int):List Int:=l.take (insN r l)++r::l.drop (insN r l)
def insAll (l:List Int):List Int:=l.foldl (fun a r=>insD r a) []
theorem takeN {α:Type} (p:α→Bool):∀l:List α,l.take (l.takeWhile p).length=l.takeWhile p∧l.drop (l.takeWhile p).length=l.dropWhile p
 |[]=>⟨rfl,rfl⟩
 |x::r=>by
  have ih:=takeN p r
  cases h:p x<;>simp[List.takeWhile,List.dropWhile,h,ih]
theorem insN_le (r:Int) (l:List Int):insN r l≤l.length:=(List.takeWhile_sublist _).length_le
theorem insD_perm (r:Int) (l:List Int):(insD r l).Perm (r::l):=by
 have h:=List.perm_middle (a:=r) (l₁:=l.take (insN r l)) (l₂:=l.drop (insN r l))
 rw[List.take_append_drop] at h
 exact h
theorem pw_takeWhile {p:Int→Bool} {R:Int→Int→Prop}:∀ {l:List Int},(∀x,x∈l.takeWhile p→p x=true)
 |[],x,h=>by simp at h
 |y::r,x,h=>by
  cases hp:p y with
  |false=>simp[List.takeWhile,hp] at h
  |true=>
   simp only[List.takeWhile,hp,List.mem_cons] at h
   rcases h with rfl|h
   ·exact hp
   ·exact pw_takeWhile (R:=R) x h
theorem insD_sorted (r:Int) {l:List Int} (h:l.Pairwise (·≥·)):(insD r l).Pairwise (·≥·):=by
 obtain ⟨e1,e2⟩:=takeN (fun x:Int=>decide (x≥r)) l
 unfold insD insN
 rw[e1,e2]
 have h0:=h
 rw[←List.takeWhile_append_dropWhile (p:=fun x:Int=>decide (x≥r)) (l:=l),List.pairwise_append] at h0
 obtain ⟨h1,h2,h3⟩:=h0
 refine List.pairwise_append.2 ⟨h1,List.pairwise_cons.2 ⟨fun y hy=>?_,h2⟩,fun x hx y hy=>?_⟩
 ·cases hd:l.dropWhile (fun x:Int=>decide (x≥r)) with
  |nil=>rw[hd] at hy;simp at hy
  |cons z t=>
   have hz:¬z≥r:=by
    have:=List.head_dropWhile_not (p:=fun x:Int=>decide (x≥r)) (l:=l) (by rw[hd];simp)
    simp only[hd,List.head_cons,decide_eq_false_iff_not] at this
    exact this
   rw[hd] at hy h2
   rcases List.mem_cons.1 hy with rfl|hy
   ·omega
   ·have:=(List.pairwise_cons.1 h2).1 y hy
    omega
 ·have hx':x≥r:=by simpa using pw_takeWhile (R:=(·≥·)) x hx
  rcases List.mem_cons.1 hy with rfl|hy
  ·exact hx'
  ·exact h3 x hx y hy
theorem insAll_ok:∀(l a:List Int),a.Pairwise (·≥·)→(l.foldl (fun a r=>insD r a) a).Pairwise (·≥·)∧(l.foldl (fun a r=>insD r a) a).Perm (l++a)
 |[],a,h=>⟨h,.refl _⟩
 |r::l,a,h=>by
  obtain ⟨h1,h2⟩:=insAll_ok l (insD r a) (insD_sorted r h)
  exact ⟨h1,h2.trans (((insD_perm r a).append_left l).trans List.perm_middle)⟩
theorem harm_eq (l:List Int):(sortI l).reverse=insAll l:=by
 obtain ⟨h1,h2⟩:=insAll_ok l [] .nil
 rw[List.append_nil] at h2
 refine List.Perm.eq_of_pairwise (le:=(·≥·)) (fun a b _ _ h1 h2=>by omega) ?_ h1 (((sortI l).reverse_perm.trans (List.mergeSort_perm l _)).trans h2.symm)
 rw[List.pairwise_reverse]
 have:=List.pairwise_mergeSort (le:=fun x y:Int=>decide (x≤y)) (fun a b c h1 h2=>by simp at*;omega) (fun a b=>by simp;omega) l
 exact this.imp fun {a b} h=>by simpa using h
theorem insAll_snoc (l:List Int) (r:Int):insAll (l++[r])=insD r (insAll l):=by simp[insAll,List.foldl_append]
theorem insAll_len (l:List Int):(insAll l).length=l.length:=by
 have:=(insAll_ok l [] .nil).2.length_eq
 simpa [insAll] using this
def revAt (l:List Int) (k m:Nat):Int:=if m<k∨l.length-k≤m then l.getD (l.length-1-m) 0 else l.getD m 0
def revUp (l:List Int) (k:Nat):List Int:=(List.range l.length).map (revAt l k)
theorem revUp_get (l:List Int) (k:Nat) {m:Nat} (h:m<l.length):(revUp l k)[m]?=some (revAt l k m):=by simp[revUp,h]
theorem revUp_len (l:List Int) (k:Nat):(revUp l k).length=l.length:=by simp[revUp]
theorem revUp_0 (l:List Int):revUp l 0=l:=by
 refine List.ext_getElem? fun m=>?_
 rcases Nat.lt_or_ge m l.length with h|h
 ·rw[revUp_get l 0 h]
  have:¬(m<0∨l.length-0≤m):=by omega
  unfold revAt
  rw[if_neg this]
  simp[h]
 ·simp[revUp,h]
theorem revUp_end (l:List Int):revUp l (l.length/2)=l.reverse:=by
 refine List.ext_getElem? fun m=>?_
 rcases Nat.lt_or_ge m l.length with h|h
 ·rw[revUp_get l _ h,List.getElem?_reverse h]
  unfold revAt
  split
  ·have:l.length-1-m<l.length:=by omega
   simp[this]
  ·have:l.length-1-m=m:=by omega
   simp[this,h]
 ·simp[revUp,h]
theorem slices_Reverse_int_eq (l:List Int) (hl:l.length≤4294967296):slices_Reverse_int [.l (l.map iE)]=some [.l (l.reverse.map iE)]:=by
 have h:=run_loop (body:=ap3 slices_Reverse_int.d1) (S:=fun k=>[C.i (k:Nat),C.i ((l.length:Int)-1-k),C.l ((revUp l k).map iE)]) (n:=l.length/2) (b:=0) (ys:=[C.l ((revUp l (l.length/2)).map iE)])
  (fun k hk=>by
   have hj:((l.length:Int)-1-k)=((l.length-1-k:Nat):Int):=by omega
   have k1:k<l.length:=by omega
   have k2:l.length-1-k<l.length:=by omega
   have lt:((k:Int)<((l.length-1-k:Nat):Int)):=by omega
   have g1:=getD_of iE (revUp_get l k k1)
   have g2:=getD_of iE (revUp_get l k k2)
   have a1:revAt l k k=l.getD k 0:=by
    unfold revAt;rw[if_neg (by omega)]
   have a2:revAt l k (l.length-1-k)=l.getD (l.length-1-k) 0:=by
    unfold revAt;rw[if_neg (by omega)]
   have wk:w64 ((k:Int)+1)=((k+1:Nat):Int):=by rw[w64_of (by omega) (by omega)];omega
   have wj:w64 (((l.length-1-k:Nat):Int)-1)=(l.length:Int)-1-((k+1:Nat):Int):=by rw[w64_of (by omega) (by omega)];omega
   have hset:(((revUp l k).map iE).set k (iE (l.getD (l.length-1-k) 0))).set (l.length-1-k) (iE (l.getD k 0))=(revUp l (k+1)).map iE:=by
    rw[←List.map_set,←List.map_set]
    congr 1
    refine List.ext_getElem? fun m=>?_
    rcases Nat.lt_or_ge m l.length with hm|hm
    ·rw[revUp_get l (k+1) hm,List.getElem?_set,List.getElem?_set]
     simp only[List.length_set,revUp_len,k1,k2,if_true]
     split
     ·rename_i e;subst e
      unfold revAt
      rw[if_pos (by omega)]
      have:l.length-1-(l.length-1-k)=k:=by omega
      rw[this]
     ·split
      ·rename_i e;subst e
       unfold revAt
       rw[if_pos (by omega)]
      ·rw[revUp_get l k hm]
       unfold revAt
       congr 1
       by_cases q:m<k∨l.length-k≤m
       ·rw[if_pos q,if_pos (by omega)]
       ·rw[if_neg q,if_neg (by omega)]
    ·simp[revUp,hm]
   simp only[hj,apL,jC,jD,slices_Reverse_int.d1,C.I_i,C.L_l,lt,decide_true,jR,jX,jW,List.length_set,revUp_len,ltL k1,ltL k2,jY,g1,g2,a1,a2,wk,wj]
   have s1:setCs (iE (l.getD k 0)) 0 [(iE (l.getD (l.length-1-k) 0)).getD 0 C.nil]=iE (l.getD (l.length-1-k) 0):=rfl
   rw[s1]
   have g3:(((revUp l k).map iE).set k (iE (l.getD (l.length-1-k) 0))).getD (l.length-1-k) []=iE (l.getD (l.length-1-k) 0):=by
    rw[List.getD_eq_getElem?_getD,List.getElem?_set_ne (by omega),←List.getD_eq_getElem?_getD,g2,a2]
   rw[g3]
   have s2:setCs (iE (l.getD (l.length-1-k) 0)) 0 [(iE (l.getD k 0)).getD 0 C.nil]=iE (l.getD k 0):=rfl
   rw[s2,hset])
  (by
   have:¬(((l.length/2:Nat):Int)<(l.length:Int)-1-((l.length/2:Nat):Int)):=by omega
   simp only[apL,jC,jD,slices_Reverse_int.d1,C.I_i,C.L_l,this,decide_false,jS]) (l.length/2) 0 rfl
 have w0:w64 ((l.length:Int)-1)=(l.length:Int)-1:=w64_of (by omega) (by omega)
 simp only[Int.natCast_zero,Int.sub_zero,revUp_0,revUp_end] at h
 simp only[slices_Reverse_int,slices_Reverse_int.d3,apL,jC,C.L_l,jW,w0,h,bindBlk_self,slices_Reverse_int.d2,jV]
theorem sortIF_eq (l:List Int) (hl:l.length≤4294967296):slices_Sort_int [.l (l.map iE)]=some [.l ((sortI l).map iE)]:=by
 have:intsOf (l.map iE)=l:=by
  have:(fun r:List C=>(r.getD 0 .nil).I)∘iE=id:=rfl
  rw[intsOf,List.map_map,this,List.map_id]
 simp only[slices_Sort_int,sortIF,jC,C.L_l,jW,hl,decide_true,jR,this]
end Go.Ev
namespace Go.Ev
def rankOf (f:Fl) (s:Str):Int:=match f.cps[(cIx f s).toNat]? with|some c=>c.rank|none=>0
def thereA (f:Fl) (g:List Str) (j:Nat):Bool:=decide (0≤cIx f (sAt g j))
def ranksOf (f:Fl) (g:List Str):List Int:=g.map (rankOf f)
def harmOf (f:Fl) (g:List Str):List Int:=bif validF f&&allFrom (thereA f g) 0 g.length then insAll (ranksOf f g) else []
theorem rank_at {f:Fl} {g:List Str} {j:Nat} (hj:j<g.length):(thereA f g j=false∧cIx f g[j]<0)∨(thereA f g j=true∧∃k,∃hk:k<f.cps.length,cIx f g[j]=(k:Nat)∧rankOf f g[j]=f.cps[k].rank):=by
 rw[thereA,sAt_get hj]
 rcases cIx_at f g[j] with h|⟨k,hk,h,_⟩
 ·exact .inl ⟨by simp;omega,h⟩
 ·exact .inr ⟨by rw[h];simp,k,hk,h,by simp[rankOf,h,hk]⟩
theorem ranks_succ (f:Fl) {g:List Str} {j:Nat} (hj:j<g.length):ranksOf f (g.take (j+1))=ranksOf f (g.take j)++[rankOf f g[j]]:=by
 rw[ranksOf,List.take_succ_eq_append_getElem hj,List.map_append];rfl
theorem ranks_len (f:Fl) (g:List Str) (j:Nat):(ranksOf f (g.take j)).length≤g.length:=by
 rw[ranksOf,jW,List.length_take];omega
section
variable {f:Fl} (hz:f.Sz 1048576) (g:List Str) (hg:SsSz 1048576 g)
include hz hg
theorem i_PilotHarm_eq:i_PilotHarm (f.e++[.l (g.map sE)])=some [.l ((harmOf f g).map iE)]:=by
 have h3:=i_PilotValid_eq hz
 have hgl:g.length<big:=by have:=hg.1;simp only[big];omega
 simp only[Fl.e,jA,jB] at h3
 simp only[i_PilotHarm,i_PilotHarm.d3,Fl.e,jA,jB,apL,jC,jD,h3,call1,jI,C.B_b,C.L_l,jW,harmOf]
 cases hv:validF f with
 |false=>rfl
 |true=>
  have h:=chk_loop (body:=ap8 i_PilotHarm.d1) (S:=fun k=>[C.l (g.map sE),C.i (g.length:Nat),C.i (k:Nat)]++f.e++[C.l ((ranksOf f (g.take k)).map iE)]) (p:=thereA f g) (n:=g.length) (b:=0) (ys:=[C.l ((ranksOf f (g.take g.length)).map iE)]) (r:=[.l nils])
   (fun k hk=>by
    have hc:=i_pCopyAt_eq f g[k] hz.2.2.1
    have hln:=ranks_len f g k
    have hln':(ranksOf f (g.take k)).length+1≤4294967296:=by have:=hg.1;omega
    simp only[Fl.e,jA,jB] at hc
    simp only[Fl.e,jA,jB,apL,jC,jD,i_PilotHarm.d1,C.I_i,C.L_l,jW,ltL hk,decide_true,jR,jX,jY,getD_map' sE hk,w1 hk hgl]
    simp only[sE,jC,hc,call1,jI,C.I_i]
    rcases rank_at (f:=f) hk with ⟨e1,e2⟩|⟨e1,m,hm,e2,e3⟩
    ·simp only[e1,e2,decide_true,jR,jS]
    ·have n1:¬((m:Int)<0):=by omega
     have hr:[(f.cps[m].e).getD 2 C.nil]=iE f.cps[m].rank:=rfl
     simp only[e1,e2,n1,decide_false,decide_true,jS,jR,jX,ltL hm,jY,getD_map' Cp.e hm,hr,rows,List.length_cons,List.length_nil,Nat.zero_add,hln',ranks_succ f hk,List.map_append,e3]
     rfl)
   (by simp[i_PilotHarm.d1,Fl.e]) g.length 0 rfl
  have hln:(ranksOf f g).length≤4294967296:=by have:=hg.1;rw[ranksOf,jW];omega
  have hsl:(sortI (ranksOf f g)).length≤4294967296:=by rw[sortI,List.length_mergeSort];exact hln
  simp only[Fl.e,jA,jB,Int.natCast_zero,List.take_zero,List.take_length,show ranksOf f []=[] from rfl,List.map_nil] at h
  simp only[jZ,jS,Bool.true_and,show nils=([]:List (List C)) from rfl,h]
  cases allFrom (thereA f g) 0 g.length with
  |false=>rfl
  |true=>
   simp only[jR,bindBlk_self,apL,jC,i_PilotHarm.d2,C.L_l,sortIF_eq _ hln,slices_Reverse_int_eq _ hsl,call1,jI,jV,harm_eq]
theorem ins_loop (r:Int) (l:List Int) (hl:l.length≤1048576) (a b c:C):lim (ap9 s_l6Harm.d1) ([a,b,.i r,.i 0]++f.e++[.l (l.map iE)])=some (.brk 2 ([a,b,.i r,.i (insN r l:Nat)]++f.e++[.l (l.map iE)])):=by
 have hlb:l.length<big:=by simp only[big];omega
 have hle:=insN_le r l
 obtain ⟨e1,e2⟩:=takeN (fun x:Int=>decide (x≥r)) l
 have h:=run_loop (body:=ap9 s_l6Harm.d1) (S:=fun k=>[a,b,.i r,.i (k:Nat)]++f.e++[C.l (l.map iE)]) (n:=insN r l) (b:=2) (ys:=[a,b,.i r,.i (insN r l:Nat)]++f.e++[C.l (l.map iE)])
  (fun k hk=>by
   have hk':k<l.length:=by omega
   have hge:l[k]≥r:=by
    have h1:(l.takeWhile fun x:Int=>decide (x≥r))[k]'hk=l[k]:=by
     have:=(List.takeWhile_prefix (fun x:Int=>decide (x≥r)) (l:=l)).getElem hk
     exact this
    have:=pw_takeWhile (p:=fun x:Int=>decide (x≥r)) (R:=(·≥·)) _ (List.getElem_mem hk)
    rw[h1] at this
    simpa using this
   simp only[Fl.e,jA,jB,apL,jC,jD,s_l6Harm.d1,C.I_i,C.L_l,jW,ltL hk',decide_true,jR,jX,jY,getD_map' iE hk',w1 hk' hlb]
   simp only[iE,jC,C.I_i,hge,decide_true,jR])
  (by
   simp only[Fl.e,jA,jB,apL,jC,jD,s_l6Harm.d1,C.I_i,C.L_l,jW]
   rcases Nat.lt_or_ge (insN r l) l.length with h|h
   ·have hlt:¬l[insN r l]≥r:=by
     have hd:l.drop (insN r l)=l.dropWhile fun x:Int=>decide (x≥r):=e2
     have hne:l.dropWhile (fun x:Int=>decide (x≥r))≠[]:=by rw[←hd];intro h0;rw[List.drop_eq_nil_iff] at h0;omega
     have:=List.head_dropWhile_not (p:=fun x:Int=>decide (x≥r)) (l:=l) hne
     have h5:(l.drop (insN r l)).head (by rw[hd];exact hne)=l[insN r l]:=by simp[List.head_drop]
     simp only[←hd,h5,decide_eq_false_iff_not] at this
     exact this
    simp only[ltL h,decide_true,jR,jX,jY,getD_map' iE h]
    simp only[iE,jC,C.I_i,hlt,decide_false,jS]
   ·have:¬(((insN r l:Nat):Int)<(l.length:Int)):=by omega
    simp only[this,decide_false,jS]) (insN r l) 0 rfl
 exact h
theorem s_l6Harm_eq (ht:allFrom (thereA f g) 0 g.length=true):s_l6Harm (f.e++[.l (g.map sE)])=some [.l ((insAll (ranksOf f g)).map iE)]:=by
 have hgl:g.length<big:=by have:=hg.1;simp only[big];omega
 have h:=run_loop (body:=ap7 s_l6Harm.d3) (S:=fun k=>[C.l (g.map sE),C.i (k:Nat)]++f.e++[C.l ((insAll (ranksOf f (g.take k))).map iE)]) (n:=g.length) (b:=0) (ys:=[C.l ((insAll (ranksOf f (g.take g.length))).map iE)])
  (fun k hk=>by
   have hc:=s_l2Copy_eq f g[k] hz.2.2.1
   have hln:=ranks_len f g k
   have hil:(insAll (ranksOf f (g.take k))).length≤1048576:=by rw[insAll_len];have:=hg.1;omega
   have hin:=insN_le
   simp only[Fl.e,jA,jB] at hc
   simp only[Fl.e,jA,jB,apL,jC,jD,s_l6Harm.d3,C.I_i,C.L_l,jW,ltL hk,decide_true,jR,jX,jY,getD_map' sE hk]
   simp only[sE,jC,hc,call1,jI,C.I_i]
   rcases rank_at (f:=f) hk with ⟨e1,e2⟩|⟨e1,m,hm,e2,e3⟩
   ·have:=(allFrom_iff _ _ _).1 ht k (Nat.zero_le _) (by omega)
    rw[e1] at this;cases this
   ·have hr:(f.cps[m].e).getD 2 C.nil=.i f.cps[m].rank:=rfl
    have hI:=ins_loop hz g hg f.cps[m].rank _ hil (.l (g.map sE)) (.i (k:Nat)) .nil
    have hN:=insN_le f.cps[m].rank (insAll (ranksOf f (g.take k)))
    simp only[Fl.e,jA,jB] at hI
    simp only[e2,decide_true,jR,jX,ltL hm,jY,getD_map' Cp.e hm,hr,ranks_succ f hk,insAll_snoc,e3]
    generalize insAll (ranksOf f (g.take k))=L at hI hil hN⊢
    generalize f.cps[m].rank=r at hI hN⊢
    rw[hI]
    have q1:((insN r L:Nat):Int)≤(L.length:Int):=by omega
    have q2:0+(insN r L)≤4294967296:=by omega
    have q3:min (insN r L) L.length=insN r L:=by omega
    have q4:0+insN r L+(0+1)≤4294967296:=by omega
    have q5:0+insN r L+(0+1)+(L.length-insN r L)≤4294967296:=by omega
    simp only[bindBlk_self,apL,jC,jD,s_l6Harm.d2,C.I_i,C.L_l,jW,q1,jX,decide_true,jR,jY,rows,List.length_append,List.length_drop,List.length_take,Nat.sub_zero,List.length_cons,List.length_nil,q2,q3,q4,q5,Int.le_refl,Nat.min_self,w1 hk hgl,List.drop_zero,jB]
    have p1:insN r L≤4294967295:=by omega
    have p2:insN r L+1+(L.length-insN r L)≤4294967296:=by omega
    simp[insD,iE,List.map_take,List.map_drop,List.take_of_length_le,p1,p2])
  (by simp[s_l6Harm.d3,Fl.e]) g.length 0 rfl
 simp only[Fl.e,jA,jB,Int.natCast_zero,List.take_zero,List.take_length,show insAll (ranksOf f [])=[] from rfl,List.map_nil] at h
 simp only[s_l6Harm,s_l6Harm.d5,Fl.e,jA,jB,apL,jC,jD,show nils=([]:List (List C)) from rfl,h,bindBlk_self,s_l6Harm.d4,C.L_l,jV]
theorem s_PilotHarm_eq:s_PilotHarm (f.e++[.l (g.map sE)])=some [.l ((harmOf f g).map iE)]:=by
 have h3:=s_PilotValid_eq hz
 have hgl:g.length<big:=by have:=hg.1;simp only[big];omega
 have h:=chk_loop (body:=ap6 s_PilotHarm.d1) (S:=fun k=>[C.l (g.map sE),C.i (k:Nat)]++f.e) (p:=thereA f g) (n:=g.length) (b:=0) (ys:=[C.l (g.map sE)]++f.e) (r:=[.l nils])
  (fun k hk=>by
   have hc:=s_l2Copy_eq f g[k] hz.2.2.1
   simp only[Fl.e,jA,jB] at hc
   simp only[Fl.e,jA,jB,apL,jC,jD,s_PilotHarm.d1,C.I_i,C.L_l,jW,ltL hk,decide_true,jR,jX,jY,getD_map' sE hk,w1 hk hgl]
   simp only[sE,jC,hc,call1,jI,C.I_i]
   rcases rank_at (f:=f) hk with ⟨e1,e2⟩|⟨e1,m,hm,e2,e3⟩
   ·simp only[e1,e2,decide_true,jR,jS]
   ·have n1:¬((m:Int)<0):=by omega
    simp only[e1,e2,n1,decide_false,jS,jR])
  (by simp[s_PilotHarm.d1,Fl.e]) g.length 0 rfl
 simp only[Fl.e,jA,jB,Int.natCast_zero] at h h3
 simp only[s_PilotHarm,s_PilotHarm.d3,Fl.e,jA,jB,apL,jC,jD,h,harmOf]
 cases ht:allFrom (thereA f g) 0 g.length with
 |false=>simp
 |true=>
  have hh:=s_l6Harm_eq hz g hg ht
  simp only[Fl.e,jA,jB] at hh
  simp only[jR,bindBlk_self,apL,jC,jD,s_PilotHarm.d2,h3,call1,jI,C.B_b,Bool.and_true]
  cases validF f with
  |false=>rfl
  |true=>simp only[jZ,jS,jR,hh,jI,jC,C.L_l,jV]
end
theorem w_markIntS_eq (l:List Int) (k:Int) (hl:l.length≤1048576) (h0:0≤k) (h1:k≤8000000000000000000):∃l':List Int,l'.length=l.length∧w_markIntS [.i k,.l (l.map iE)]=some [.i (k+l.length),.l (l'.map iE)]∧w_heldIntS [.l (l'.map iE),.i k]=some [.i (k+l.length)]:=by
 have mk:∀(r:List Int) (k:Int),mkAll (fun (_:Int) k=>((k,k+1):Int×Int)) r k=((List.range r.length).map fun j:Nat=>k+j,k+r.length):=by
  intro r
  induction r with
  |nil=>intro k;simp[mkAll]
  |cons x r ih=>
   intro k
   simp only[mkAll,ih,List.length_cons,List.range_succ_eq_map,List.map_cons,List.map_map]
   refine Prod.ext ?_ (by simp;omega)
   simp only[List.cons.injEq]
   refine ⟨by simp,List.map_congr_left fun j _=>by simp only[Function.comp];omega⟩
 have h:=mark_loop (K:=8500000000000000000) (P:=fun _=>True) (e:=iE) (fun (_:Int) k=>((k,k+1):Int×Int)) 1 (body:=ap3 w_markIntS.d1) (n:=l.length) hl (by omega)
  (fun i x c k _ hi hc hg k0 k1=>by
   have hic:i<c.length:=by omega
   simp (disch:=omega) only[apL,jC,jD,w_markIntS.d1,C.I_i,C.L_l,ltL hic,jR,jX,decide_true,jY,hg,w64_up,w1 hi (show l.length<big by simp only[big];omega)]
   rfl)
  (fun k c hc=>by simp[w_markIntS.d1,hc]) l [] k (by simp) (fun _ _=>trivial) (fun x _ k=>by simp only;omega) h0 (by simp;omega)
 have h2:=held_loop (K:=8500000000000000000) (P:=fun _=>True) (e:=iE) (fun (_:Int) k=>((k,k+1):Int×Int)) 1 (body:=ap3 w_heldIntS.d1) (n:=l.length) (L:=(mkAll (fun (_:Int) k=>((k,k+1):Int×Int)) l k).1.map iE) hl (by omega)
  (fun i x k' _ hi hg k0 k1=>by
   have hlen:((mkAll (fun (_:Int) k=>((k,k+1):Int×Int)) l k).1.map iE).length=l.length:=by rw[jW,mkAll_len]
   simp (disch:=omega) only[apL,jC,jD,w_heldIntS.d1,C.I_i,C.L_l,hlen,ltL hi,jR,jS,jX,decide_true,jY,hg,w64_up,w1 hi (show l.length<big by simp only[big];omega),iE,bne_self_eq_false])
  (fun k=>by simp[w_heldIntS.d1,mkAll_len]) l [] k rfl (by simp) (fun _ _=>trivial) (fun x _ k=>by simp only;omega) h0 (by simp;omega)
 refine ⟨(mkAll (fun (_:Int) k=>((k,k+1):Int×Int)) l k).1,mkAll_len _ _ _,?_,?_⟩
 ·simp only[List.length_nil,jB,Int.natCast_zero] at h
  simp only[w_markIntS,w_markIntS.d3,apL,jC,jD,C.L_l]
  rw[h]
  simp[w_markIntS.d2,mk]
 ·simp only[List.length_nil,Int.natCast_zero] at h2
  simp only[w_heldIntS,w_heldIntS.d3,apL,jC,jD,C.L_l]
  rw[h2]
  simp[w_heldIntS.d2,mk]
theorem w_eqIntS_eq (l:List Int) (hl:l.length≤1048576):w_eqIntS [.l (l.map iE),.l (l.map iE)]=some [.b true]:=by
 have h:=eq_loop (l:=l) (e:=iE) (body:=ap3 w_eqIntS.d1)
  (fun i hi=>by
   simp only[apL,jC,jD,w_eqIntS.d1,C.I_i,C.L_l,jW,jY,getD_map' iE hi,w1 hi (show l.length<big by simp only[big];omega),ltL hi,jR,jX,decide_true]
   simp[iE])
  (by simp[w_eqIntS.d1]) l.length 0 rfl
 simp only[Int.natCast_zero] at h
 simp only[w_eqIntS,w_eqIntS.d3,apL,jC,jD,C.L_l,jW,bne_self_eq_false,jS]
 rw[h]
 simp[w_eqIntS.d2]
theorem FnExactPilotHarm_true (f:Fl) (g:List Str) (hz:f.Sz maxLen) (hg:SsSz maxLen g):w_FnExactPilotHarm (f.e++[.l (g.map sE)])=some [.b true]:=by
 have h1:=w_szPilotFleet_eq f 1048576 (by omega) (by omega) hz
 simp only[Fl.e,jA,jB] at h1
 simp only[w_FnExactPilotHarm,w_FnExactPilotHarm.d1,Fl.e,jA,jB,apL,jC,jD,C.S_s]
 rcases h1 with h|⟨n,n0,n1,hz',h⟩
 ·simp[h,call1]
 have hn:¬n<0:=by omega
 simp only[h,call1,jI,jC,C.I_i,hn,decide_false,jS]
 rcases w_szStringS_eq g n (by omega) (by omega) hg with h|⟨m,m0,m1,hg',h⟩
 ·simp[h,call1]
 have hm:¬m<0:=by omega
 have t1:=w_toPilotFleet_eq f hz'
 have t2:=w_toStringS_eq g ⟨hg'.1,fun _ _=>trivial⟩
 have t3:=w_eqPilotFleet_eq f hz'
 have t4:=w_eqStringS_eq g ⟨hg'.1,fun _ _=>trivial⟩
 have s1:=s_PilotHarm_eq hz' g hg'
 have s2:=i_PilotHarm_eq hz' g hg'
 have hr:(harmOf f g).length≤1048576:=by
  unfold harmOf
  cases validF f&&allFrom (thereA f g) 0 g.length with
  |false=>simp
  |true=>
   simp only[jR,insAll_len,ranksOf,jW]
   exact hg'.1
 generalize harmOf f g=r at s1 s2 hr
 have e1:=w_eqIntS_eq r hr
 have mk:=w_markPilotFleet_eq hz' (k:=1) (by omega) (by omega)
 obtain ⟨u1,u2,u3⟩:=mkFl_up hz' (k:=1) (by omega)
 have mg:=w_markStringS_eq g (mkFl f 1).2 hg'.1 (by omega) (by omega)
 have ug:=mkStr_up g (mkFl f 1).2
 have hk:¬(mkAll mkStr g (mkFl f 1).2).2<0:=by omega
 obtain ⟨r',_,mr,hr2⟩:=w_markIntS_eq r 1 hr (by omega) (by omega)
 have hm3:¬(1+(r.length:Int))<0:=by omega
 simp only[Fl.e,jA,jB] at t1 t3 s1 s2
 simp only[h,hm,t1,t2,t3,t4,s1,s2,mk,mg,hk,mr,hr2,hm3,e1,call1,call2,call4,jI,jC,jD,C.I_i,C.L_l,C.B_b,C.S_s,decide_false,jS,jZ,ja,jR,bne_self_eq_false,jV]
end Go.Ev
namespace Go.Ev
theorem dec_list {α:Type} (e:α→List C) (P:α→Prop):∀(es:List (List C)),(∀r,r∈es→∃x,r=e x∧P x)→∃l:List α,es=l.map e∧∀x,x∈l→P x
 |[],_=>⟨[],rfl,fun x h=>by simp at h⟩
 |r::es,h=>by
  obtain ⟨x,rfl,hx⟩:=h r (by simp)
  obtain ⟨l,rfl,hl⟩:=dec_list e P es fun r hr=>h r (by simp[hr])
  exact ⟨x::l,rfl,fun y hy=>by
   rcases List.mem_cons.1 hy with rfl|hy
   ·exact hx
   ·exact hl y hy⟩
theorem db_rows {T:Tys} {e:TypeId} {d:TD} {c:C} (h:DB T (.sl e) c) (hd:tget T e=some d):∃es:List (List C),c=.l es∧es.length≤maxLen∧∀r,r∈es→r.length=d.cts.length∧∀(j:Nat) (c:C) (ct:CT),r[j]?=some c→d.cts[j]?=some ct→DB T ct c:=by
 cases h with
 |l e es h h1 h2=>exact ⟨es,rfl,h,fun r hr=>⟨h1 r d hr hd,fun j c ct=>h2 r d j c ct hr hd⟩⟩
theorem db_str {T:Tys} {c:C} (h:DB T .str c):∃s:Str,c=.s s∧s.size≤maxLen:=by cases h with|s x h=>exact ⟨x,rfl,h⟩
theorem db_int {T:Tys} {k:IntKind} {c:C} (h:DB T (.int k) c):∃n:Int,c=.i n:=by cases h with|i k n h=>exact ⟨n,rfl⟩
theorem db_bool {T:Tys} {c:C} (h:DB T .bool c):∃b:Bool,c=.b b:=by cases h with|b x=>exact ⟨x,rfl⟩
theorem db_strs {c:C} (h:DB T0 (.sl 9) c):∃l:List Str,c=.l (l.map sE)∧SsSz maxLen l:=by
 obtain ⟨es,rfl,hl,hr⟩:=db_rows h (d:=⟨.str,[.str],16⟩) rfl
 obtain ⟨l,rfl,h2⟩:=dec_list sE (fun s=>s.size≤maxLen) es fun r hr'=>by
  obtain ⟨h1,h2⟩:=hr r hr'
  match r,h1 with
  |[c],_=>
   obtain ⟨s,rfl,hs⟩:=db_str (h2 0 c .str rfl rfl)
   exact ⟨s,rfl,hs⟩
 exact ⟨l,rfl,by simpa using hl,h2⟩
theorem db_Bt {c:C} (h:DB T0 (.sl 83) c):∃l:List Bt,c=.l (l.map Bt.e)∧l.length≤maxLen∧∀x,x∈l→(fun x=>x.Sz maxLen) x:=by
 obtain ⟨es,rfl,hl,hr⟩:=db_rows h (d:=⟨(.st [(0,9),(1,9),(2,27),(3,3),(4,3),(5,4)]),[.str,.str,(.sl 9),(.int .i64),(.int .i64),.bool],80⟩) rfl
 obtain ⟨l,rfl,h2⟩:=dec_list Bt.e (fun x=>x.Sz maxLen) es fun r hr'=>by
  obtain ⟨h1,h2⟩:=hr r hr'
  match r,h1 with
  |[x0,x1,x2,x3,x4,x5],_=>
   obtain ⟨x0,rfl,sx0⟩:=db_str (h2 0 x0 _ rfl rfl)
   obtain ⟨x1,rfl,sx1⟩:=db_str (h2 1 x1 _ rfl rfl)
   obtain ⟨x2,rfl,zx2⟩:=db_strs (h2 2 x2 _ rfl rfl)
   obtain ⟨x3,rfl⟩:=db_int (h2 3 x3 _ rfl rfl)
   obtain ⟨x4,rfl⟩:=db_int (h2 4 x4 _ rfl rfl)
   obtain ⟨x5,rfl⟩:=db_bool (h2 5 x5 _ rfl rfl)
   exact ⟨⟨x0,x1,x2,x3,x4,x5⟩,rfl,⟨sx0,sx1,zx2⟩⟩
 exact ⟨l,rfl,by simpa using hl,h2⟩
theorem db_Sv {c:C} (h:DB T0 (.sl 86) c):∃l:List Sv,c=.l (l.map Sv.e)∧l.length≤maxLen∧∀x,x∈l→(fun x=>x.Sz maxLen) x:=by
 obtain ⟨es,rfl,hl,hr⟩:=db_rows h (d:=⟨(.st [(0,9),(1,3)]),[.str,(.int .i64)],24⟩) rfl
 obtain ⟨l,rfl,h2⟩:=dec_list Sv.e (fun x=>x.Sz maxLen) es fun r hr'=>by
  obtain ⟨h1,h2⟩:=hr r hr'
  match r,h1 with
  |[x0,x1],_=>
   obtain ⟨x0,rfl,sx0⟩:=db_str (h2 0 x0 _ rfl rfl)
   obtain ⟨x1,rfl⟩:=db_int (h2 1 x1 _ rfl rfl)
   exact ⟨⟨x0,x1⟩,rfl,sx0⟩
 exact ⟨l,rfl,by simpa using hl,h2⟩
theorem db_Lk {c:C} (h:DB T0 (.sl 159) c):∃l:List Lk,c=.l (l.map Lk.e)∧l.length≤maxLen∧∀x,x∈l→(fun x=>x.sel.size≤maxLen) x:=by
 obtain ⟨es,rfl,hl,hr⟩:=db_rows h (d:=⟨(.st [(0,9),(1,3)]),[.str,(.int .i64)],24⟩) rfl
 obtain ⟨l,rfl,h2⟩:=dec_list Lk.e (fun x=>x.sel.size≤maxLen) es fun r hr'=>by
  obtain ⟨h1,h2⟩:=hr r hr'
  match r,h1 with
  |[x0,x1],_=>
   obtain ⟨x0,rfl,sx0⟩:=db_str (h2 0 x0 _ rfl rfl)
   obtain ⟨x1,rfl⟩:=db_int (h2 1 x1 _ rfl rfl)
   exact ⟨⟨x0,x1⟩,rfl,sx0⟩
 exact ⟨l,rfl,by simpa using hl,h2⟩
theorem db_Cp {c:C} (h:DB T0 (.sl 90) c):∃l:List Cp,c=.l (l.map Cp.e)∧l.length≤maxLen∧∀x,x∈l→(fun x=>x.Sz maxLen) x:=by
 obtain ⟨es,rfl,hl,hr⟩:=db_rows h (d:=⟨(.st [(0,9),(1,9),(2,3),(3,3),(4,3),(5,3),(6,9),(7,88),(8,3),(9,9),(10,9),(11,9)]),[.str,.str,(.int .i64),(.int .i64),(.int .i64),(.int .i64),.str,(.sl 159),(.int .i64),.str,.str,.str],160⟩) rfl
 obtain ⟨l,rfl,h2⟩:=dec_list Cp.e (fun x=>x.Sz maxLen) es fun r hr'=>by
  obtain ⟨h1,h2⟩:=hr r hr'
  match r,h1 with
  |[x0,x1,x2,x3,x4,x5,x6,x7,x8,x9,x10,x11],_=>
   obtain ⟨x0,rfl,sx0⟩:=db_str (h2 0 x0 _ rfl rfl)
   obtain ⟨x1,rfl,sx1⟩:=db_str (h2 1 x1 _ rfl rfl)
   obtain ⟨x2,rfl⟩:=db_int (h2 2 x2 _ rfl rfl)
   obtain ⟨x3,rfl⟩:=db_int (h2 3 x3 _ rfl rfl)
   obtain ⟨x4,rfl⟩:=db_int (h2 4 x4 _ rfl rfl)
   obtain ⟨x5,rfl⟩:=db_int (h2 5 x5 _ rfl rfl)
   obtain ⟨x6,rfl,sx6⟩:=db_str (h2 6 x6 _ rfl rfl)
   obtain ⟨x7,rfl,zx7⟩:=db_Lk (h2 7 x7 _ rfl rfl)
   obtain ⟨x8,rfl⟩:=db_int (h2 8 x8 _ rfl rfl)
   obtain ⟨x9,rfl,sx9⟩:=db_str (h2 9 x9 _ rfl rfl)
   obtain ⟨x10,rfl,sx10⟩:=db_str (h2 10 x10 _ rfl rfl)
   obtain ⟨x11,rfl,sx11⟩:=db_str (h2 11 x11 _ rfl rfl)
   exact ⟨⟨x0,x1,x2,x3,x4,x5,x6,x7,x8,x9,x10,x11⟩,rfl,⟨sx0,sx1,sx6,sx9,sx10,sx11,zx7⟩⟩
 exact ⟨l,rfl,by simpa using hl,h2⟩
abbrev ctsFl:List CT:=[.bool,(.sl 83),(.sl 86),(.sl 90)]
theorem rd_Fl {w:World} {vs:List Value} {xs:List C} (h:Rd T0 w ctsFl vs xs):∃f:Fl,xs=f.e∧f.Sz maxLen:=by
 obtain ⟨h1,_,_,h2⟩:=h
 match xs,h1 with
 |[x0,x1,x2,x3],_=>
  obtain ⟨x0,rfl⟩:=db_bool (h2 0 x0 _ rfl rfl)
  obtain ⟨x1,rfl,zx1⟩:=db_Bt (h2 1 x1 _ rfl rfl)
  obtain ⟨x2,rfl,zx2⟩:=db_Sv (h2 2 x2 _ rfl rfl)
  obtain ⟨x3,rfl,zx3⟩:=db_Cp (h2 3 x3 _ rfl rfl)
  exact ⟨⟨x0,x1,x2,x3⟩,rfl,⟨zx1,zx2,zx3⟩⟩
theorem rd_strs {w:World} {v:Value} {xs:List C} (h:Rd T0 w [.sl 9] [v] xs):∃g:List Str,xs=[.l (g.map sE)]∧SsSz maxLen g∧RelC T0 (fun k=>k<w.heap.size) w (.sl 9) (.l (g.map sE)) v:=by
 obtain ⟨h1,_,h3,h2⟩:=h
 match xs,h1 with
 |[a],_=>
  obtain ⟨a',rfl,ha⟩:=db_strs (h2 0 a _ rfl rfl)
  exact ⟨a',rfl,ha,h3 0 _ _ v rfl rfl rfl⟩
end Go.Ev
