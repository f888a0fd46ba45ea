/- Proved here: the law FnPilotHarmCard of the given program answers true at every input, and leaves the input as it was; no condition. This text: lemmas on the way (an evaluator of the program's code, sound once for all; the functions it prints; plain proofs on these). -/
import Derived.Test.YtephnkjnbnjicaaGreatDoorP4
set_option linter.all false
set_option autoImplicit false
set_option maxRecDepth 8000
namespace Go.Ev
def atP (nm:Str) (x:Cp):Bool:=sEq x.at_ nm
theorem Dp {l:List Cp} (nm:Str) (hl:∀x,x∈l->0<=x.room/\x.room<=1000) (h60:l.length<=60):∀i,i<=l.length->mM l nm i=dr (atP nm) Cp.room l i
 |0,_=>by simp[mM,dr]
 |i+1,h=>by
  have hi:i<l.length:=by omega
  have ih:=Dp nm hl h60 i (by omega)
  have hb:=mA (atP nm) Cp.room hl i (by omega)
  have hx:=hl _ (Mq hi)
  simp only[mM,Mg hi,ih]
  rw[pg (atP nm) Cp.room hi]
  show (bif atP nm l[i] then w64 (dr (atP nm) Cp.room l i+l[i].room) else dr (atP nm) Cp.room l i)=_
  cases atP nm l[i] with
  |true=>simp only[jR];rw[aN (by omega) (by omega)]
  |false=>simp
theorem DJ {l:List Cp} (nm:Str) (hl:∀x,x∈l->0<=x.hold/\x.hold<=1000) (h60:l.length<=60):∀i,i<=l.length->mL l nm i=dr (atP nm) Cp.hold l i
 |0,_=>by simp[mL,dr]
 |i+1,h=>by
  have hi:i<l.length:=by omega
  have ih:=DJ nm hl h60 i (by omega)
  have hb:=mA (atP nm) Cp.hold hl i (by omega)
  have hx:=hl _ (Mq hi)
  simp only[mL,Mg hi,ih]
  rw[pg (atP nm) Cp.hold hi]
  show (bif atP nm l[i] then w64 (dr (atP nm) Cp.hold l i+l[i].hold) else dr (atP nm) Cp.hold l i)=_
  cases atP nm l[i] with
  |true=>simp only[jR];rw[aN (by omega) (by omega)]
  |false=>simp
theorem we (l:List Cp) (nm:Str):∀i,i<=l.length->eR l nm i=h9 (atP nm) l i
 |0,_=>by simp[eR,h9]
 |i+1,h=>by
  have hi:i<l.length:=by omega
  have ih:=we l nm i (by omega)
  simp only[eR,Mg hi,ih,wG (atP nm) hi]
  show (bif atP nm l[i] then _ else _)=_
  cases atP nm l[i]<;>simp
def pM (p:Cp->Bool) (g:Cp->Int) (l:List Cp):Int:=(l.map fun x=>bif p x then g x else 0).sum
theorem yI (p:Cp->Bool) (g:Cp->Int) (l:List Cp):dr p g l l.length=pM p g l:=by simp[dr,pM]
theorem zR (p:Cp->Bool) (l:List Cp):((h9 p l l.length:Nat):Int)=pM p (fun _=>1) l:=by
 simp only[h9,Na,pM]
 induction l with
 |nil=>rfl
 |cons x r ih=>
  simp only[List.countP_cons,MD,List.sum_cons,←ih]
  cases p x<;>simp<;>omega
theorem Dc {p:Cp->Bool} {g:Cp->Int}:∀ {l:List Cp} {i:Nat} (h:i<l.length) (y:Cp),pM p g (l.set i y)=pM p g l-(bif p l[i] then g l[i] else 0)+(bif p y then g y else 0)
 |x::l,0,_,y=>by simp only[List.set_cons_zero,pM,MD,List.sum_cons,List.getElem_cons_zero];omega
 |x::l,i+1,h,y=>by
  have ih:=Dc (p:=p) (g:=g) (l:=l) (i:=i) (by simpa using h) y
  simp only[List.set_cons_succ,pM,MD,List.sum_cons,List.getElem_cons_succ] at*
  omega
structure VF (f:Fl):Prop where
 n12:f.bts.length<=12
 n30:f.svs.length<=30
 n60:f.cps.length<=60
 sv:aA (svA f) 0 f.svs.length=true
 cp:∀i (h:i<f.cps.length),kA f.cps[i]=true/\f.svs.any (fun s=>sEq s.name f.cps[i].svc)=true/\(∀h':0<i,sLt (f.cps[i-1]'(by omega)).name f.cps[i].name=true)/\(sEq f.cps[i].at_ (mkS [])=true∨f.bts.any (fun b=>sEq b.name f.cps[i].at_)=true)
 bt:aA (btA f) 0 f.bts.length=true
 fit:∀b,b∈f.bts->pM (atP b.name) Cp.room f.cps<=b.room/\pM (atP b.name) Cp.hold f.cps<=b.hold/\pM (atP b.name) (fun _=>1) f.cps<=10
theorem Gj {f:Fl} (hv:VB f) {b:Bt} (hb:b∈f.bts):used f b.name=(pM (atP b.name) Cp.room f.cps,pM (atP b.name) Cp.hold f.cps):=by
 have h1:=Dp b.name (lr hv) hv.n60 f.cps.length (Mp _)
 have h2:=DJ b.name (ly hv) hv.n60 f.cps.length (Mp _)
 rw[yI] at h1 h2
 have hx:¬bIx f b.name<0:=by
  rcases pA f b.name with h|⟨k,hk,h,_⟩
  ·have:=pP _ _ _ h
   have h3:f.bts.any (fun x:Bt=>sEq x.name b.name)=true:=Nh.2 ⟨b,hb,(dc _ _).2 rfl⟩
   rw[this] at h3;cases h3
  ·omega
 have hn:sEq b.name (mkS [])=false:=tL (hv.bb b hb)
 simp only[used,hn,hx,Mu,Bool.or_self,jS,h1,h2]
theorem Ky {f:Fl} (h:bl f=true):VF f:=by
 have hv:=fB h
 have h0:=h
 simp only[bl,Mk,Ms] at h
 obtain ⟨a1,a2,a3,a4,a5,a6,a7⟩:=h
 refine ⟨a1,a2,a3,a4,fun i hi=>?_,a6,fun b hb=>?_⟩
 ·have:=(cj _ _ _).1 a5 i (Nat.zero_le _) (by omega)
  simp only[cpA,Mg hi,Mk,MX] at this
  refine ⟨this.1,this.2.1,fun h'=>?_,this.2.2.2⟩
  rcases this.2.2.1 with q|q
  ·rw[MY] at q;omega
  ·have hi1:i-1<f.cps.length:=by omega
   rw[Mg hi1] at q
   exact q
 ·obtain ⟨i,hi,rfl⟩:=List.getElem_of_mem hb
  have:=(cj _ _ _).1 a7 i (Nat.zero_le _) (by omega)
  simp only[tq,Mg hi,Mk,Ms,Gj hv hb] at this
  have hs:=zR (atP f.bts[i].name) f.cps
  rw[←we f.cps _ f.cps.length (Mp _)] at hs
  exact ⟨this.1,this.2.1,by omega⟩
theorem ux {f:Fl} (h:VF f):bl f=true:=by
 have hbb:∀b,b∈f.bts->dR b=true:=fun b hb=>by
  obtain ⟨i,hi,rfl⟩:=List.getElem_of_mem hb
  have:=(cj _ _ _).1 h.bt i (Nat.zero_le _) (by omega)
  simp only[btA,Mg hi,Mk] at this
  exact this.1
 have hv:VB f:=by
  refine ⟨h.n60,fun x hx=>?_,hbb⟩
  obtain ⟨i,hi,rfl⟩:=List.getElem_of_mem hx
  have:=(h.cp i hi).1
  simp only[kA,within,Mk,Ms] at this
  exact ⟨this.2.2.2.1,this.2.2.2.2.1,this.2.2.2.2.2.2.1,this.2.1,this.2.2.1⟩
 simp only[bl,Mk,Ms]
 refine ⟨h.n12,h.n30,h.n60,h.sv,(cj _ _ _).2 fun i _ hi=>?_,h.bt,(cj _ _ _).2 fun i _ hi=>?_⟩
 ·have hi:i<f.cps.length:=by omega
  obtain ⟨c1,c2,c3,c4⟩:=h.cp i hi
  simp only[cpA,Mg hi,Mk,MX,MY]
  refine ⟨c1,c2,?_,c4⟩
  rcases Nat.eq_zero_or_pos i with q|q
  ·exact .inl q
  ·have hi1:i-1<f.cps.length:=by omega
   rw[Mg hi1]
   exact .inr (c3 q)
 ·have hi:i<f.bts.length:=by omega
  have hb:=Mq hi
  obtain ⟨c1,c2,c3⟩:=h.fit _ hb
  have hs:=zR (atP f.bts[i].name) f.cps
  rw[←we f.cps _ f.cps.length (Mp _)] at hs
  simp only[tq,Mg hi,Mk,Ms,Gj hv hb]
  exact ⟨c1,c2,by omega⟩
theorem CO {f:Fl} (h:VF f) {i:Nat} (hi:i<f.cps.length) (hw:sEq f.cps[i].at_ (mkS [])=true) {b:Bt} (hb:b∈f.bts) (hf:eL f f.cps[i] b false=0):VF (setAt f i f.cps[i] b.name):=by
 have hv:=ux h
 have hu:=nW hv
 have hvb:=fB hv
 have hl:(setAt f i f.cps[i] b.name).cps.length=f.cps.length:=by simp[setAt]
 have hg:∀k (h1:k<(setAt f i f.cps[i] b.name).cps.length) (h2:k<f.cps.length),(setAt f i f.cps[i] b.name).cps[k]=if i=k then {f.cps[i] with at_:=b.name} else f.cps[k]:=fun k h1 h2=>by
  simp only[setAt,List.getElem_set]
 have hbo:=hvb.bb b hb
 have hbn:=tL hbo
 have hon:∀x,x∈f.cps->onP f.cps[i] b x=atP b.name x:=fun x hx=>by
  unfold onP oth atP
  cases q:sEq x.at_ b.name with
  |false=>simp
  |true=>
   have q1:sEq x.at_ (mkS [])=false:=BV hbo _ q
   have q2:sEq x.name f.cps[i].name=false:=by
    cases q3:sEq x.name f.cps[i].name with
    |false=>rfl
    |true=>
     have:=DQ hu hx (Mq hi) q3
     subst this
     rw[hw] at q1;cases q1
   simp[q1,q2]
 have hsum:∀w:Cp->Int,dr (onP f.cps[i] b) w f.cps f.cps.length=pM (atP b.name) w f.cps:=fun w=>by
  rw[yI]
  unfold pM
  congr 1
  exact List.map_congr_left fun x hx=>by rw[hon x hx]
 have hcnt:((h9 (onP f.cps[i] b) f.cps f.cps.length:Nat):Int)=pM (atP b.name) (fun _=>1) f.cps:=by
  rw[zR,←yI,hsum]
 have hf3:h9 (onP f.cps[i] b) f.cps f.cps.length<10/\¬b.room<dr (onP f.cps[i] b) Cp.room f.cps f.cps.length+f.cps[i].room/\¬b.hold<dr (onP f.cps[i] b) Cp.hold f.cps f.cps.length+f.cps[i].hold:=by
  unfold eL at hf
  cases q1:b.shut&&!false<;>rw[q1] at hf<;>simp only[jR,jS] at hf
  ·cases q2: !sEq f.cps[i].fixed (mkS [])&&!sEq f.cps[i].fixed b.name<;>rw[q2] at hf<;>simp only[jR,jS] at hf
   ·cases q3: !uE f.cps[i].sel b<;>rw[q3] at hf<;>simp only[jR,jS] at hf
    ·cases q4:f.cps.any (rT f f.cps[i] b)<;>rw[q4] at hf<;>simp only[jR,jS] at hf
     ·cases q5:Ae f f.cps[i] b<;>rw[q5] at hf<;>simp only[jR,jS] at hf
      ·cases q6:decide (10<=h9 (onP f.cps[i] b) f.cps f.cps.length)<;>rw[q6] at hf<;>simp only[jR,jS] at hf
       ·cases q7:decide (b.room<dr (onP f.cps[i] b) Cp.room f.cps f.cps.length+f.cps[i].room)<;>rw[q7] at hf<;>simp only[jR,jS] at hf
        ·cases q8:decide (b.hold<dr (onP f.cps[i] b) Cp.hold f.cps f.cps.length+f.cps[i].hold)<;>rw[q8] at hf<;>simp only[jR,jS] at hf
         ·simp only[decide_eq_false_iff_not] at q6 q7 q8
          exact ⟨by omega,q7,q8⟩
         ·omega
        ·omega
       ·omega
      ·omega
     ·omega
    ·omega
   ·omega
  ·omega
 obtain ⟨f1,f2,f3⟩:=hf3
 rw[hsum] at f2 f3
 refine ⟨h.n12,h.n30,by rw[hl];exact h.n60,h.sv,fun k hk=>?_,h.bt,fun b' hb'=>?_⟩
 ·have hk':k<f.cps.length:=by omega
  obtain ⟨c1,c2,c3,c4⟩:=h.cp k hk'
  have en:∀m (h1:m<(setAt f i f.cps[i] b.name).cps.length) (h2:m<f.cps.length),(setAt f i f.cps[i] b.name).cps[m].name=f.cps[m].name:=fun m h1 h2=>by
   rw[hg m h1 h2];split
   ·rename_i e;subst e;rfl
   ·rfl
  refine ⟨?_,?_,fun h'=>?_,?_⟩
  ·rw[hg k hk hk'];split
   ·rename_i e;subst e;exact c1
   ·exact c1
  ·rw[hg k hk hk'];split
   ·rename_i e;subst e;exact c2
   ·exact c2
  ·rw[en k hk hk',en (k-1) (by omega) (by omega)]
   exact c3 h'
  ·rw[hg k hk hk'];split
   ·exact .inr (Nh.2 ⟨b,hb,(dc _ _).2 rfl⟩)
   ·exact c4
 ·obtain ⟨c1,c2,c3⟩:=h.fit b' hb'
  have hbo':=hvb.bb b' hb'
  have h0:atP b'.name f.cps[i]=false:=by
   unfold atP
   rw[(dc _ _).1 hw,nq]
   exact tL hbo'
  have hset:∀w:Cp->Int,(w {f.cps[i] with at_:=b.name}=w f.cps[i])->pM (atP b'.name) w (setAt f i f.cps[i] b.name).cps=pM (atP b'.name) w f.cps+(bif sEq b.name b'.name then w f.cps[i] else 0):=fun w he=>by
   show pM (atP b'.name) w (f.cps.set i _)=_
   rw[Dc hi,h0,he]
   simp only[jS,atP]
   omega
  rw[hset Cp.room rfl,hset Cp.hold rfl,hset (fun _=>1) rfl]
  cases q:sEq b.name b'.name with
  |false=>simp only[jS,Int.add_zero];exact ⟨c1,c2,c3⟩
  |true=>
   have:b'=b:=by
    obtain ⟨j,hj,j1,j2⟩:=Dq hv hb
    obtain ⟨j',hj',j1',j2'⟩:=Dq hv hb'
    rw[(dc _ _).1 q,j1'] at j1
    have:j'=j:=by omega
    subst this
    rw[←j2,←j2']
   subst this
   simp only[jR]
   exact ⟨by omega,by omega,by omega⟩
end Go.Ev
namespace Go.Ev
end Go.Ev
namespace Go.Ev
theorem wY (f:Fl) (c:Cp):∀i,i<=f.bts.length->jc f c i=-1∨∃k,∃h:k<f.bts.length,jc f c i=(k:Nat)/\eL f c f.bts[k] false=0
 |0,_=>.inl rfl
 |i+1,h=>by
  have hi:i<f.bts.length:=by omega
  have ih:=wY f c i (by omega)
  simp only[jc,Mg hi]
  cases hq:eL f c f.bts[i] false==0 with
  |false=>simpa using ih
  |true=>
   simp only[Mx]
   cases Jv f c (jc f c i) f.bts[i] with
   |true=>exact .inr ⟨i,hi,rfl,by simpa using hq⟩
   |false=>exact ih
theorem E4 {f:Fl} {c:Cp} (h:sEq (iY f c) (mkS [])=false):∃b,b∈f.bts/\iY f c=b.name/\eL f c b false=0:=by
 have h0:sEq (mkS []) (mkS [])=true:=(dc _ _).2 rfl
 rcases wY f c f.bts.length (Mp _) with e|⟨k,hk,e,hf⟩
 ·have:iY f c=mkS []:=by
   unfold iY
   rw[e]
   split
   ·rfl
   ·rfl
  rw[this,h0] at h;cases h
 ·refine ⟨f.bts[k],Mq hk,?_,hf⟩
  unfold iY
  rw[e,Int.toNat_natCast,Mg hk]
  exact if_neg (by omega)
def rV (f:Fl):Option Stp:=(queue f).findSome? (DP f)
def plF (f:Fl) (x:Stp):Fl:=match f.cps[(cIx f x.1).toNat]? with|some c=>setAt f (cIx f x.1).toNat c x.2.1|none=>f
structure uh (f:Fl) (x:Stp) where
 i:Nat
 hi:i<f.cps.length
 b:Bt
 hb:b∈f.bts
 e:x=(f.cps[i].name,b.name,[])
 ix:cIx f f.cps[i].name=(i:Nat)
 w:sEq f.cps[i].at_ (mkS [])=true
 fit:eL f f.cps[i] b false=0
 put:plF f x=setAt f i f.cps[i] b.name
theorem yl {f:Fl} (hv:VF f) {x:Stp} (h:rV f=some x):Nonempty (uh f x):=by
 obtain ⟨c,hc,hx⟩:=List.exists_of_findSome?_eq_some h
 unfold DP at hx
 cases hq:sEq (iY f c) (mkS []) with
 |true=>rw[hq] at hx;cases hx
 |false=>
  rw[hq] at hx
  obtain rfl:=Mh hx
  obtain ⟨hm,hw⟩:=wz hc
  obtain ⟨i,hi,e1,rfl⟩:=rH (nW (ux hv)) hm
  obtain ⟨b,hb,e2,hf⟩:=E4 hq
  refine ⟨⟨i,hi,b,hb,by rw[e2],e1,hw,hf,?_⟩⟩
  simp only[plF,e1,e2,Int.toNat_natCast,Mg hi]
theorem uh.valid {f:Fl} {x:Stp} (F:uh f x) (h:VF f):VF (plF f x):=by
 rw[F.put];exact CO h F.hi F.w F.hb F.fit
theorem uh.sz {f:Fl} {x:Stp} (F:uh f x) (hz:f.Sz 1048576):(plF f x).Sz 1048576:=by
 rw[F.put]
 exact IK hz (hz.2.2.2 _ (Mq F.hi)) (hz.1.2 _ F.hb).1 _
theorem uh.less {f:Fl} {x:Stp} (F:uh f x) (h:VF f):(waits (plF f x)).length+1<=(waits f).length:=by
 rw[F.put]
 have hn:iI {f.cps[F.i]'F.hi with at_:=F.b.name}=false:=tL ((fB (ux h)).bb _ F.hb)
 have hw:iI (f.cps[F.i]'F.hi)=true:=F.w
 have hp:0<f.cps.countP iI:=List.countP_pos_iff.2 ⟨_,Mq F.hi,hw⟩
 simp only[waits,setAt,←List.countP_eq_length_filter]
 rw[List.countP_set F.hi,hn,hw]
 simp
 omega
def stS (x:Stp):Sp:=⟨x.1,x.2.1,x.2.2⟩
def place:Nat->Fl->List Sp->Fl×List Sp
 |0,f,s=>(f,s)
 |k+1,f,s=>match rV f with
  |some x=>place k (plF f x) (s++[stS x])
  |none=>(f,s)
theorem yr {f:Fl} (h:rV f=none) (s:List Sp):∀k,place k f s=(f,s)
 |0=>rfl
 |k+1=>by simp only[place,h]
theorem AQ {body:List C->R} {S T:Fl->List Sp->List C} {o:List C->Out} (ho:∀ys,(o ys).stops)
  (hs:∀(f:Fl) (s:List Sp),VF f->f.Sz 1048576->s.length<=60->∀x,rV f=some x->∀F:uh f x,body (S f s)=some (.again (S (plF f x) (s++[stS x]))))
  (he:∀(f:Fl) (s:List Sp),VF f->f.Sz 1048576->s.length<=60->rV f=none->body (S f s)=some (o (T f s))):
  ∀(k:Nat) (f:Fl) (s:List Sp),VF f->f.Sz 1048576->(waits f).length<=k->s.length+k<=60->lim body (S f s)=some (o (T (place k f s).1 (place k f s).2))
 |k,f,s,hv,hz,hk,hl=>by
  cases hx:rV f with
  |none=>rw[yr hx,yj (he f s hv hz (by omega) hx) (ho _)]
  |some x=>
   obtain ⟨F⟩:=yl hv hx
   have h1:=F.less hv
   cases k with
   |zero=>omega
   |succ k=>
    rw[aD (hs f s hv hz (by omega) x hx F),AQ ho hs he k (plF f x) (s++[stS x]) (F.valid hv) (F.sz hz) (by omega) (by simp;omega)]
    simp only[place,hx]
end Go.Ev
namespace Go.Ev
section
variable {f:Fl} (hz:f.Sz 1048576)
include hz
end
section
variable {f:Fl} {s:List Sp} (hv:VF f) (hz:f.Sz 1048576) (hs:s.length<=60)
include hv hz hs
theorem BA {x:Stp} (hx:rV f=some x) (F:uh f x) (r:Option Stp) (hr:r=rV (plF f x)):
  apn 13 cx.d1 [.b true,.b false,.l (s.map Sp.e),.b f.pack,.s x.1,.s x.2.1,.l [],.l [],.l [],.l (f.bts.map Bt.e),.l (f.svs.map Sv.e),.l (f.cps.map Cp.e),.l (x.2.2.map sE)]
   =some (.again [.b r.isSome,.b false,.l ((s++[stS x]).map Sp.e),.b (plF f x).pack,.s (nxA r),.s (nxB r),.l [],.l [],.l [],.l ((plF f x).bts.map Bt.e),.l ((plF f x).svs.map Sv.e),.l ((plF f x).cps.map Cp.e),.l ((nxG r).map sE)]):=by
 subst hr
 have hF:=tO (F.sz hz) (ux (F.valid hv))
 have hn:s.length+1<=4294967296:=by omega
 rw[show (queue (plF f x)).findSome? (DP (plF f x))=rV (plF f x) from rfl,FW] at hF
 generalize rV (plF f x)=r at hF⊢
 obtain ⟨i,hi,b,hb,e,ix,w,fit,hp⟩:=F
 have hcix:=gj f f.cps[i].name hz.2.2.1
 rw[ix] at hcix
 generalize plF f x=f' at hp hF⊢
 subst e
 subst hp
 have hc:(setAt f i f.cps[i] b.name).cps.map Cp.e=(f.cps.map Cp.e).set i (aB (f.cps[i].e) 11 [.s b.name]):=by
  simp[setAt,Nr,Cp.e,aB]
 rw[hc]
 simp only[fe,hc] at hF
 simp only[setAt] at hF⊢
 simp only[fe,jA,jB] at hcix
 simp only[apL,jC,jD,cx.d1,C.B_b,jR,C.L_l,hcix,ad,jI,C.I_i,jX,Mt,jW,ltL hi,jY,getD_map' Cp.e hi,rows,Mn,Mo,My,hn,hF,call4]
 simp[stS,Sp.e,af]
end
end Go.Ev
namespace Go.Ev
def spS (f:Fl) (s:List Sp):List C:=[.b (rV f).isSome,.b false,.l (s.map Sp.e),.b f.pack,.s (nxA (rV f)),.s (nxB (rV f)),.l [],.l [],.l [],.l (f.bts.map Bt.e),.l (f.svs.map Sv.e),.l (f.cps.map Cp.e),.l ((nxG (rV f)).map sE)]
def spT (f:Fl) (s:List Sp):List C:=[.b false,.l (s.map Sp.e),.b f.pack,.l [],.l [],.l [],.l (f.bts.map Bt.e),.l (f.svs.map Sv.e),.l (f.cps.map Cp.e)]
theorem Db {f:Fl} (hv:VF f) (hz:f.Sz 1048576):lim (apn 13 cx.d1) (spS f [])=some (.brk 0 (spT (place 60 f []).1 (place 60 f []).2)):=by
 have hw:(waits f).length<=60:=MR (Np _ _) hv.n60
 exact AQ (body:=apn 13 cx.d1) (S:=spS) (T:=spT) (o:=Out.brk 0) (fun _=>trivial)
  (fun f s hv hz hs x hx F=>by
   have:=BA hv hz hs hx F _ rfl
   have e:spS f s=[.b true,.b false,.l (s.map Sp.e),.b f.pack,.s x.1,.s x.2.1,.l [],.l [],.l [],.l (f.bts.map Bt.e),.l (f.svs.map Sv.e),.l (f.cps.map Cp.e),.l (x.2.2.map sE)]:=by
    simp only[spS,hx,nxA,nxB,nxG,Nd]
   rw[e,this];rfl)
  (fun f s hv hz hs hx=>by
   have e:spS f s=[.b false,.b false,.l (s.map Sp.e),.b f.pack,.s (mkS []),.s (mkS []),.l [],.l [],.l [],.l (f.bts.map Bt.e),.l (f.svs.map Sv.e),.l (f.cps.map Cp.e),.l []]:=by
    simp only[spS,hx,nxA,nxB,nxG,Nf,MC]
   rw[e]
   simp[cx.d1,spT])
  60 f [] hv hz hw (by simp)
def BO (f:Fl):Fl×List Sp:=bif bl f then place 60 f [] else (fl0,[])
def H8 (r:Fl×List Sp):List C:=[.b r.1.pack,.l (r.1.bts.map Bt.e),.l (r.1.svs.map Sv.e),.l (r.1.cps.map Cp.e),.l (r.2.map Sp.e)]
end Go.Ev
namespace Go.Ev
end Go.Ev
namespace Go.Ev
def BY (bs:List (List C)):Prop:=∀r,r∈bs->∃n:Int,r=[.i n]/\0<=n/\n<=255
theorem BY.get {bs:List (List C)} (h:BY bs) (k:Nat):0<=((bs.getD k []).getD 0 .nil).I/\((bs.getD k []).getD 0 .nil).I<=255:=by
 have hr:bs.getD k []=[]∨bs.getD k []∈bs:=by
  rcases Nat.lt_or_ge k bs.length with h|h
  ·right
   have:bs.getD k []=bs[k]:=by rw[Mm,Mg h];rfl
   rw[this];exact Mq h
  ·left
   rw[Mm,M7 h];rfl
 generalize bs.getD k []=r at hr
 rcases hr with rfl|hr
 ·exact ⟨Int.le_refl 0,by decide⟩
 ·obtain ⟨n,rfl,h0,h1⟩:=h r hr
  exact ⟨h0,h1⟩
theorem KI {x y:Int} (hx:0<=x/\x<1152921504606846976) (hy:0<=y/\y<1152921504606846976):0<=w64 ((BitVec.ofInt (IntKind.bits .i64) x^^^BitVec.ofInt (IntKind.bits .i64) y).toNat:Int)/\w64 ((BitVec.ofInt (IntKind.bits .i64) x^^^BitVec.ofInt (IntKind.bits .i64) y).toNat:Int)<1152921504606846976:=by
 have e:∀z:Int,0<=z/\z<1152921504606846976->(BitVec.ofInt (IntKind.bits .i64) z).toNat=z.toNat:=fun z hz=>by
  rw[BitVec.toNat_ofInt]
  have:(2:Int)^IntKind.bits .i64=18446744073709551616:=by decide
  have h2:((2^IntKind.bits .i64:Nat):Int)=18446744073709551616:=by decide
  rw[h2,Int.emod_eq_of_lt hz.1 (by omega)]
 have h:(BitVec.ofInt (IntKind.bits .i64) x^^^BitVec.ofInt (IntKind.bits .i64) y).toNat<2^60:=by
  rw[BitVec.toNat_xor,e x hx,e y hy]
  exact Nat.xor_lt_two_pow (by omega) (by omega)
 generalize (BitVec.ofInt (IntKind.bits .i64) x^^^BitVec.ofInt (IntKind.bits .i64) y).toNat=m at*
 have:(2:Nat)^60=1152921504606846976:=by decide
 rw[aN (by omega) (by omega)]
 omega
theorem ba {bs:List (List C)} (hb:BY bs) (hl:bs.length<=2000) {p n:Int} (h0:0<=p) (h1:p<=1125899906842624) (hn:1<=n) (hn2:n<=4294967296):
  ∃k:Nat,(k:Int)<n/\ae [.i n,.l bs,.i p]=some [.i k,.l bs,.i (p+1)]:=by
 have w1:w64 (p+1)=p+1:=aN (by omega) (by omega)
 have w2:w64 (p+1-1)=p:=by rw[show p+1-1=p by omega];exact aN (by omega) (by omega)
 have n1:¬n<1:=by omega
 have n2:(n !=0)=true:=by rw[bne_iff_ne];omega
 simp only[ae,ae.d1,apL,jC,jD,C.I_i,C.L_l,w1,w2,n1,n2,Mu,ja,jR]
 by_cases hz:bs.length=0
 ·refine ⟨0,by omega,?_⟩
  simp[hz]
 have hz1:(((bs.length:Nat):Int)==0)=false:=by rw[Ns];omega
 have hz2:(((bs.length:Nat):Int) !=0)=true:=by rw[bne_iff_ne];omega
 have key:∀z:Int,0<=z->∃k:Nat,(k:Int)<n/\z.tmod n=(k:Int):=fun z hz=>by
  have h1:0<=z.tmod n:=Int.tmod_nonneg _ hz
  have h2:z.tmod n<n:=Int.tmod_lt_of_pos _ (by omega)
  exact ⟨(z.tmod n).toNat,by omega,by omega⟩
 by_cases hp:p<(bs.length:Int)
 ·obtain ⟨g0,g1⟩:=hb.get p.toNat
  have w3:w64 ((bs.getD p.toNat []).getD 0 .nil).I=((bs.getD p.toNat []).getD 0 .nil).I:=aN (by omega) (by omega)
  obtain ⟨k,k1,k2⟩:=key _ g0
  refine ⟨k,k1,?_⟩
  simp only[hz1,hp,h0,Mt,jR,jS,w3,k2,jV]
 ·have w4:w64 (p*7)=p*7:=aN (by omega) (by omega)
  have w5:w64 (p*7+3)=p*7+3:=aN (by omega) (by omega)
  have m1:0<=p.tmod bs.length/\p.tmod bs.length<bs.length:=⟨Int.tmod_nonneg _ h0,Int.tmod_lt_of_pos _ (by omega)⟩
  have m2:0<=(p*7+3).tmod bs.length/\(p*7+3).tmod bs.length<bs.length:=⟨Int.tmod_nonneg _ (by omega),Int.tmod_lt_of_pos _ (by omega)⟩
  simp only[hz1,hz2,hp,w4,w5,m1.1,m1.2,m2.1,m2.2,Mt,Mu,jR,jS]
  obtain ⟨a0,a1⟩:=hb.get (p.tmod bs.length).toNat
  obtain ⟨b0,b1⟩:=hb.get ((p*7+3).tmod bs.length).toNat
  generalize ((bs.getD (p.tmod bs.length).toNat []).getD 0 .nil).I=a at*
  generalize ((bs.getD ((p*7+3).tmod bs.length).toNat []).getD 0 .nil).I=b at*
  have d1:0<=p.tdiv bs.length/\p.tdiv bs.length<=p:=⟨Int.tdiv_nonneg h0 (by omega),Int.tdiv_le_self _ h0⟩
  generalize p.tdiv bs.length=q at*
  have v1:w64 a=a:=aN (by omega) (by omega)
  have v2:w64 b=b:=aN (by omega) (by omega)
  have v3:w64 (a*131)=a*131:=aN (by omega) (by omega)
  have v4:w64 (b*1117)=b*1117:=aN (by omega) (by omega)
  have v5:w64 (a*131+b*1117)=a*131+b*1117:=aN (by omega) (by omega)
  have v6:w64 (p*29)=p*29:=aN (by omega) (by omega)
  have v7:w64 (a*131+b*1117+p*29)=a*131+b*1117+p*29:=aN (by omega) (by omega)
  have v8:w64 q=q:=aN (by omega) (by omega)
  have v9:w64 (q*53)=q*53:=aN (by omega) (by omega)
  have v10:w64 (a*131+b*1117+p*29+q*53)=a*131+b*1117+p*29+q*53:=aN (by omega) (by omega)
  have hx:0<=a*131+b*1117+p*29+q*53/\a*131+b*1117+p*29+q*53<1152921504606846976:=by omega
  simp only[v1,v2,v3,v4,v5,v6,v7,v8,v9,v10]
  generalize a*131+b*1117+p*29+q*53=x at*
  have e1:0<=x.tdiv 64/\x.tdiv 64<=x:=⟨Int.tdiv_nonneg hx.1 (by omega),Int.tdiv_le_self _ hx.1⟩
  have v11:w64 (x.tdiv 64)=x.tdiv 64:=aN (by omega) (by omega)
  have:=KI hx (y:=x.tdiv 64) (by omega)
  simp only[v11] at*
  obtain ⟨k,k1,k2⟩:=key _ this.1
  exact ⟨k,k1,by simp only[k2,jV]⟩
theorem KY {bs:List (List C)} {p n:Int} (h0:0<=p) (h1:p<=1125899906842624) (hn:n<1):ae [.i n,.l bs,.i p]=some [.i 0,.l bs,.i (p+1)]:=by
 have w1:w64 (p+1)=p+1:=aN (by omega) (by omega)
 simp only[ae,ae.d1,apL,jC,jD,C.I_i,C.L_l,w1,hn,Mt,jZ,jS,jV]
end Go.Ev
namespace Go.Ev
theorem y3 (G:List C->Option (List C)) (k:Int) (b:Nat) (s:Str) (x y z:C) {m:Nat} (hm:s.size<=m) (hb:m<=1048576):∃s':Str,apn 6 (bA.d1 G) [.i b,.s s,.i k,x,y,z]=some (.ret [.s s'])/\s'.size<=m+2:=by
 have e0:∃j:Int,ng [.i k]=some [.i j]:=by
  simp only[ng,ng.d1,apL,jC,C.I_i]
  cases k==5<;>cases k==4<;>exact ⟨_,rfl⟩
 obtain ⟨j,hj⟩:=e0
 have s1:(bs #[40]).size=1:=rfl
 have s2:(bs #[41]).size=1:=rfl
 have s3:(bs #[40]++s).size=1+s.size:=by rw[MK];rfl
 have s4:((bs #[40]++s)++bs #[41]).size=1+s.size+1:=by rw[MK,s3];rfl
 have c1:1+s.size<=4294967296:=by omega
 have c2:1+s.size+1<=4294967296:=by omega
 simp only[apL,jC,jD,bA.d1,hj,ad,jI,C.I_i,C.S_s,s1,s2,s3,c1,c2,Mt,jR]
 cases decide (j<(b:Int)) with
 |true=>exact ⟨_,rfl,by rw[s4];omega⟩
 |false=>exact ⟨_,rfl,by omega⟩
theorem AE {s:Str} (h:bf s=true):s.size<=20:=by
 simp only[bf,Mk,within,Ms] at h
 omega
theorem ss {N K:List (List C)} (hN:N.length<=1048576) (hK:K.length<=1048576):∀(k:Nat) (t:Tr) (o:Nat) (r r':List (List C)) (b:Nat),t.depth<k->t.Wf->t.sz<=1000->N.drop o=t.flat++r->K.drop o=t.kids o++r'->
  ∃s:Str,bA.g k 0 [.l N,.l K,.i (o+t.sz-1:Nat),.i b]=some [.s s]/\s.size<=50*t.sz
 |0,t,o,r,r',b,h,_,_,_,_=>by omega
 |k+1,t,o,r,r',b,h,hok,hsz,hd,hd'=>by
  have hs:∀x,bA.g (k+1) 0 x=bA.step (bA.g k 0) x:=fun _=>rfl
  rw[hs]
  simp only[bA.step,bA.d2,apL,jC,jD,C.I_i,C.L_l,jY]
  cases t with
  |lf kd n v=>
   obtain ⟨h1,h2,_⟩:=drop_cons (show N.drop o=node kd n v 0::r from hd)
   have e:o+(Tr.lf kd n v).sz-1=o:=by simp[Tr.sz]
   have hg:N.getD o []=node kd n v 0:=by rw[Mm,Mg h1,h2];rfl
   have e1:((o:Int)<(N.length:Int)):=by omega
   simp only[e,hg,node,jC,jD,C.I_i,C.S_s,e1,Mt,jR,jX]
   have hn:=AE hok.1
   rcases hok.2 with ⟨rfl,rfl⟩|⟨rfl,hv⟩
   ·obtain ⟨s',h3,h4⟩:=y3 (bA.g k 0) ((1:Nat):Int) b (mkS n) (.s (mkS n)) (.s (mkS [])) (.i ((0:Nat):Int)) hn (by omega)
    refine ⟨s',?_,by simp only[Tr.sz];omega⟩
    simp only[show (((1:Nat):Int)==1)=true from rfl,jR,jJ]
    rw[h3];rfl
   ·have hv:=AE hv
    have s1:(bs #[61]).size=1:=rfl
    have s2:(mkS n++bs #[61]).size=(mkS n).size+1:=by rw[MK];rfl
    have s3:((mkS n++bs #[61])++mkS v).size=(mkS n).size+1+(mkS v).size:=by rw[MK,s2]
    obtain ⟨s',h3,h4⟩:=y3 (bA.g k 0) ((2:Nat):Int) b ((mkS n++bs #[61])++mkS v) (.s (mkS n)) (.s (mkS v)) (.i ((0:Nat):Int)) (m:=41) (by rw[s3];omega) (by omega)
    refine ⟨s',?_,by simp only[Tr.sz];omega⟩
    have c1:(mkS n).size+1<=4294967296:=by omega
    have c2:(mkS n).size+1+(mkS v).size<=4294967296:=by omega
    simp only[show (((2:Nat):Int)==1)=false from rfl,show (((2:Nat):Int)==2)=true from rfl,jR,jS,s1,s2,c1,c2,Mt,jJ]
    rw[h3];rfl
  |un t=>
   simp only[Tr.depth] at h
   simp only[Tr.sz] at hsz
   have hn:N.drop o=t.flat++(node 3 [] [] 1::r):=by rw[hd];simp[Tr.flat]
   have hk:K.drop o=t.kids o++([.l [[.i (o+t.sz-1:Nat)]]]::r'):=by rw[hd'];simp[Tr.kids]
   obtain ⟨s1,ih,hz⟩:=ss hN hK k t o _ _ 3 (by omega) hok (by omega) hn hk
   obtain ⟨h1,h2⟩:=jy hn
   obtain ⟨h3,h4⟩:=jy hk
   rw[t.cq] at h1
   rw[t.cR] at h3
   have h2:N[o+t.sz]=node 3 [] [] 1:=by simp only[t.cq] at h2;exact h2
   have h4:K[o+t.sz]=[.l [[.i (o+t.sz-1:Nat)]]]:=by simp only[t.cR] at h4;exact h4
   have e:o+(Tr.un t).sz-1=o+t.sz:=by simp[Tr.sz]
   have hg:N.getD (o+t.sz) []=node 3 [] [] 1:=by rw[Mm,Mg h1,h2];rfl
   have hg':K.getD (o+t.sz) []=[.l [[.i (o+t.sz-1:Nat)]]]:=by rw[Mm,Mg h3,h4];rfl
   have e1:(((o+t.sz:Nat):Int)<(N.length:Int)):=by omega
   have e2:(((o+t.sz:Nat):Int)<(K.length:Int)):=by omega
   have e3:(0:Int)<((([[C.i ((o+t.sz-1:Nat):Int)]]:List (List C)).length:Nat):Int):=by simp
   have z1:(bs #[33]).size=1:=rfl
   have z2:(bs #[33]++s1).size=1+s1.size:=by rw[MK];rfl
   have c1:1+s1.size<=4294967296:=by omega
   have ih':bA.g k 0 [.l N,.l K,.i (o+t.sz-1:Nat),.i 3]=some [.s s1]:=ih
   obtain ⟨s',q1,q2⟩:=y3 (bA.g k 0) ((3:Nat):Int) b (bs #[33]++s1) (.s (mkS [])) (.s (mkS [])) (.i ((1:Nat):Int)) (m:=50*t.sz+1) (by rw[z2];omega) (by omega)
   refine ⟨s',?_,by simp only[Tr.sz];omega⟩
   simp only[e,hg,hg',node,jC,jD,C.I_i,C.L_l,C.S_s,e1,e2,e3,Mt,jR,jS,jX,show (((3:Nat):Int)==1)=false from rfl,show (((3:Nat):Int)==2)=false from rfl,show (((3:Nat):Int)==3)=true from rfl,ih',ad,jI,z1,c1,jJ]
   rw[q1];rfl
  |bn kd a b'=>
   simp only[Tr.depth] at h
   simp only[Tr.sz] at hsz
   have hw:(kd=4∨kd=5)/\a.Wf/\b'.Wf:=hok
   have hn:N.drop o=a.flat++(b'.flat++(node kd [] [] 2::r)):=by rw[hd];simp[Tr.flat]
   have hn2:N.drop (o+a.sz)=b'.flat++(node kd [] [] 2::r):=by rw[←List.drop_drop,hn,←a.cq];simp
   have hk:K.drop o=a.kids o++(b'.kids (o+a.sz)++([.l [[.i (o+a.sz-1:Nat)],[.i (o+a.sz+b'.sz-1:Nat)]]]::r')):=by rw[hd'];simp[Tr.kids]
   have hk2:K.drop (o+a.sz)=b'.kids (o+a.sz)++([.l [[.i (o+a.sz-1:Nat)],[.i (o+a.sz+b'.sz-1:Nat)]]]::r'):=by
    rw[←List.drop_drop,hk,←a.cR o];simp
   obtain ⟨h1,h2⟩:=jy hn2
   obtain ⟨h3,h4⟩:=jy hk2
   rw[b'.cq] at h1
   rw[b'.cR] at h3
   have h2:N[o+a.sz+b'.sz]=node kd [] [] 2:=by simp only[b'.cq] at h2;exact h2
   have h4:K[o+a.sz+b'.sz]=[.l [[.i (o+a.sz-1:Nat)],[.i (o+a.sz+b'.sz-1:Nat)]]]:=by simp only[b'.cR] at h4;exact h4
   have e:o+(Tr.bn kd a b').sz-1=o+a.sz+b'.sz:=by simp only[Tr.sz];omega
   have hg:N.getD (o+a.sz+b'.sz) []=node kd [] [] 2:=by rw[Mm,Mg h1,h2];rfl
   have hg':K.getD (o+a.sz+b'.sz) []=[.l [[.i (o+a.sz-1:Nat)],[.i (o+a.sz+b'.sz-1:Nat)]]]:=by rw[Mm,Mg h3,h4];rfl
   have e1:(((o+a.sz+b'.sz:Nat):Int)<(N.length:Int)):=by omega
   have e2:(((o+a.sz+b'.sz:Nat):Int)<(K.length:Int)):=by omega
   have e3:(0:Int)<((([[C.i ((o+a.sz-1:Nat):Int)],[C.i ((o+a.sz+b'.sz-1:Nat):Int)]]:List (List C)).length:Nat):Int):=by simp
   have e4:(1:Int)<((([[C.i ((o+a.sz-1:Nat):Int)],[C.i ((o+a.sz+b'.sz-1:Nat):Int)]]:List (List C)).length:Nat):Int):=by simp
   rcases hw.1 with rfl|rfl
   ·obtain ⟨s1,iha,ha⟩:=ss hN hK k a o _ _ 2 (by omega) hw.2.1 (by omega) hn hk
    obtain ⟨s2,ihb,hb⟩:=ss hN hK k b' (o+a.sz) _ _ 3 (by omega) hw.2.2 (by omega) hn2 hk2
    have iha:bA.g k 0 [.l N,.l K,.i (o+a.sz-1:Nat),.i 2]=some [.s s1]:=iha
    have ihb:bA.g k 0 [.l N,.l K,.i (o+a.sz+b'.sz-1:Nat),.i 3]=some [.s s2]:=ihb
    have z1:(bs #[32,38,32]).size=3:=rfl
    have z2:(s1++bs #[32,38,32]).size=s1.size+3:=by rw[MK];rfl
    have z3:((s1++bs #[32,38,32])++s2).size=s1.size+3+s2.size:=by rw[MK,z2]
    have c1:s1.size+3<=4294967296:=by omega
    have c2:s1.size+3+s2.size<=4294967296:=by omega
    obtain ⟨s',q1,q2⟩:=y3 (bA.g k 0) ((4:Nat):Int) b ((s1++bs #[32,38,32])++s2) (.s (mkS [])) (.s (mkS [])) (.i ((2:Nat):Int)) (m:=50*a.sz+50*b'.sz+3) (by rw[z3];omega) (by omega)
    refine ⟨s',?_,by simp only[Tr.sz];omega⟩
    simp only[e,hg,hg',node,jC,jD,C.I_i,C.L_l,C.S_s,e1,e2,e3,e4,Mt,jR,jS,jX,show (((4:Nat):Int)==1)=false from rfl,show (((4:Nat):Int)==2)=false from rfl,show (((4:Nat):Int)==3)=false from rfl,show (((4:Nat):Int)==4)=true from rfl,iha,ihb,ad,jI,z1,z2,c1,c2,jJ]
    rw[q1];rfl
   ·obtain ⟨s1,iha,ha⟩:=ss hN hK k a o _ _ 1 (by omega) hw.2.1 (by omega) hn hk
    obtain ⟨s2,ihb,hb⟩:=ss hN hK k b' (o+a.sz) _ _ 2 (by omega) hw.2.2 (by omega) hn2 hk2
    have iha:bA.g k 0 [.l N,.l K,.i (o+a.sz-1:Nat),.i 1]=some [.s s1]:=iha
    have ihb:bA.g k 0 [.l N,.l K,.i (o+a.sz+b'.sz-1:Nat),.i 2]=some [.s s2]:=ihb
    have z1:(bs #[32,124,32]).size=3:=rfl
    have z2:(s1++bs #[32,124,32]).size=s1.size+3:=by rw[MK];rfl
    have z3:((s1++bs #[32,124,32])++s2).size=s1.size+3+s2.size:=by rw[MK,z2]
    have c1:s1.size+3<=4294967296:=by omega
    have c2:s1.size+3+s2.size<=4294967296:=by omega
    obtain ⟨s',q1,q2⟩:=y3 (bA.g k 0) ((5:Nat):Int) b ((s1++bs #[32,124,32])++s2) (.s (mkS [])) (.s (mkS [])) (.i ((2:Nat):Int)) (m:=50*a.sz+50*b'.sz+3) (by rw[z3];omega) (by omega)
    refine ⟨s',?_,by simp only[Tr.sz];omega⟩
    simp only[e,hg,hg',node,jC,jD,C.I_i,C.L_l,C.S_s,e1,e2,e3,e4,Mt,jR,jS,jX,show (((5:Nat):Int)==1)=false from rfl,show (((5:Nat):Int)==2)=false from rfl,show (((5:Nat):Int)==3)=false from rfl,show (((5:Nat):Int)==4)=false from rfl,show (((5:Nat):Int)==5)=true from rfl,iha,ihb,ad,jI,z1,z2,c1,c2,jJ]
    rw[q1];rfl
theorem JP {t:Tr} (ht:t.sz<=400) (hw:t.Wf):∃s:Str,hY [.l t.flat]=some [.s s]/\s.size<=200:=by
 have hF:=mr
 have hp:=t.sT
 have hd:=t.mX
 have hw1:w64 ((t.flat.length:Int)-1)=((0+t.sz-1:Nat):Int):=by rw[t.cq,aN (by omega) (by omega)];omega
 obtain ⟨s,h1,h2⟩:=ss (N:=t.flat) (K:=t.kids 0) (by rw[t.cq];omega) (by rw[t.cR];omega) jd t 0 [] [] 1 (by omega) hw (by omega) (by simp) (by simp)
 have h1:bA [.l t.flat,.l (t.kids 0),.i (0+t.sz-1:Nat),.i 1]=some [.s s]:=h1
 simp only[hY,hY.d1,apL,jC,jD,uP t ht (.inl hw),ad,call2,jI,C.B_b,jU t (by omega),C.L_l,hw1,h1,C.S_s]
 cases decide (t.depth<=20) with
 |false=>exact ⟨_,rfl,by decide⟩
 |true=>
  simp only[jZ,jS]
  by_cases hs:(s.size:Int)>200
  ·simp only[hs,Mt,jR,jV];exact ⟨_,rfl,by decide⟩
  ·simp only[hs,Mu,jS,jV];exact ⟨_,rfl,by omega⟩
end Go.Ev
namespace Go.Ev
section
variable {bs:List (List C)} (hb:BY bs) (hl:bs.length<=2000)
include hb hl
theorem Jo {p:Int} (h0:0<=p) (h1:p<=1125899906842624):∃n:Tok,nD [.l bs,.i p]=some [.s (mkS n),.l bs,.i (p+1)]/\bf (mkS n)=true:=by
 obtain ⟨k,hk,e⟩:=ba hb hl h0 h1 (n:=8) (by omega) (by omega)
 have hk:k<8:=by omega
 have q:((k:Int)<8):=by omega
 simp only[nD,nD.d1,apL,jC,jD,e,call3,jI,C.I_i,jX,Mt,jR]
 rcases k with _|_|_|_|_|_|_|_|k
 ·exact ⟨[115,115,100],rfl,by decide⟩
 ·exact ⟨[111,108,100],rfl,by decide⟩
 ·exact ⟨[103,112,117],rfl,by decide⟩
 ·exact ⟨[122,111,110,101],rfl,by decide⟩
 ·exact ⟨[99,111,108,111,114],rfl,by decide⟩
 ·exact ⟨[97],rfl,by decide⟩
 ·exact ⟨[98,45,49],rfl,by decide⟩
 ·exact ⟨[120,95,50],rfl,by decide⟩
 ·omega
theorem Jm {p:Int} (h0:0<=p) (h1:p<=1125899906842624-4):∃(t:Tr) (p':Int),ke [.l bs,.i p]=some [.l bs,.i p',.l t.flat]/\t.Wf/\t.sz=1/\p<=p'/\p'<=p+3:=by
 obtain ⟨k,hk,e⟩:=ba hb hl h0 (show p<=1125899906842624 by omega) (n:=2) (by omega) (by omega)
 simp only[ke,ke.d1,apL,jC,jD,e,call3,jI,C.I_i]
 cases hq:((k:Int)==0) with
 |true=>
  obtain ⟨n,e2,hn⟩:=Jo hb hl (p:=p+1) (by omega) (by omega)
  simp only[jR,e2,jI,jC,jD,jV]
  exact ⟨.lf 1 n [],p+1+1,rfl,⟨hn,.inl ⟨rfl,rfl⟩⟩,rfl,by omega,by omega⟩
 |false=>
  obtain ⟨i,hi,e2⟩:=ba hb hl (p:=p+1) (n:=3) (by omega) (by omega) (by omega) (by omega)
  obtain ⟨j,hj,e3⟩:=ba hb hl (p:=p+1+1) (n:=4) (by omega) (by omega) (by omega) (by omega)
  simp only[jS,e2,e3,jI,jC,jD,C.I_i,jX,Mt,jR]
  have hv:∃v:Tok,((rows [[C.s (Go.Ev.bs #[101,97,115,116])],[C.s (Go.Ev.bs #[119,101,115,116])],[C.s (Go.Ev.bs #[114,101,100])],[C.s (Go.Ev.bs #[97])]]).getD (j:Int).toNat []).getD 0 .nil=.s (mkS v)/\bf (mkS v)=true:=by
   rcases j with _|_|_|_|j
   ·exact ⟨[101,97,115,116],rfl,by decide⟩
   ·exact ⟨[119,101,115,116],rfl,by decide⟩
   ·exact ⟨[114,101,100],rfl,by decide⟩
   ·exact ⟨[97],rfl,by decide⟩
   ·omega
  have hn:∃v:Tok,((rows [[C.s (Go.Ev.bs #[122,111,110,101])],[C.s (Go.Ev.bs #[99,111,108,111,114])],[C.s (Go.Ev.bs #[115,115,100])]]).getD (i:Int).toNat []).getD 0 .nil=.s (mkS v)/\bf (mkS v)=true:=by
   rcases i with _|_|_|i
   ·exact ⟨[122,111,110,101],rfl,by decide⟩
   ·exact ⟨[99,111,108,111,114],rfl,by decide⟩
   ·exact ⟨[115,115,100],rfl,by decide⟩
   ·omega
  obtain ⟨v,v1,v2⟩:=hv
  obtain ⟨n,n1,n2⟩:=hn
  rw[v1,n1]
  have q1:decide ((i:Int)<((rows [[C.s (Go.Ev.bs #[122,111,110,101])],[C.s (Go.Ev.bs #[99,111,108,111,114])],[C.s (Go.Ev.bs #[115,115,100])]]).length:Int))=true:=by
   show decide ((i:Int)<3)=true
   simp;omega
  have q2:decide ((j:Int)<((rows [[C.s (Go.Ev.bs #[101,97,115,116])],[C.s (Go.Ev.bs #[119,101,115,116])],[C.s (Go.Ev.bs #[114,101,100])],[C.s (Go.Ev.bs #[97])]]).length:Int))=true:=by
   show decide ((j:Int)<4)=true
   simp;omega
  rw[q1,q2]
  exact ⟨.lf 2 n v,p+1+1+1,rfl,⟨n2,.inr ⟨rfl,v2⟩⟩,rfl,by omega,by omega⟩
theorem BW:∀(k d:Nat) (p:Int),d<k->d<=6->0<=p->p+(8*2^d:Nat)<=1125899906842624-10->∃(t:Tr) (p':Int),ej.g k 0 [.i d,.l bs,.i p]=some [.l bs,.i p',.l t.flat]/\t.Wf/\t.sz+1<=2^(d+1)/\p<=p'/\p'<=p+(8*2^d-2:Nat)
 |0,d,p,h,_,_,_=>by omega
 |k+1,d,p,h,h6,h0,h1=>by
  have hs:∀x,ej.g (k+1) 0 x=ej.step (ej.g k 0) x:=fun _=>rfl
  rw[hs]
  have hpow:2^d<=64/\1<=2^d:=by
   have:=Nat.pow_le_pow_right (show 0<2 by decide) h6
   exact ⟨by simpa using this,Nat.one_le_two_pow⟩
  simp only[ej.step,ej.d1,apL,jC,jD,C.I_i]
  have leaf:∀q:Int,p<=q->q<=p+1->∃(t:Tr) (p':Int),aU (call3 (ke [.l bs,.i q]) fun g h i=>some (.ret [g,h,.l i.L]))=some [.l bs,.i p',.l t.flat]/\t.Wf/\t.sz+1<=2^(d+1)/\p<=p'/\p'<=p+(8*2^d-2:Nat):=fun q q0 q1=>by
   obtain ⟨t,p',e,a1,a2,a3,a4⟩:=Jm hb hl (p:=q) (by omega) (by omega)
   refine ⟨t,p',by simp only[e,call3,jI,jC,jD,C.L_l,jV],a1,?_,by omega,by omega⟩
   rw[a2,Nat.pow_succ];omega
  cases hd:decide ((d:Int)<=0) with
  |true=>simp only[jZ,jS];exact leaf p (by omega) (by omega)
  |false=>
   have hd:¬((d:Int)<=0):=by simpa using hd
   obtain ⟨i,hi,e⟩:=ba hb hl h0 (show p<=1125899906842624 by omega) (n:=3) (by omega) (by omega)
   simp only[ja,jR,e,call3,jI,jC,jD,C.I_i]
   cases hq:((i:Int)==0) with
   |true=>simp only[jR];exact leaf (p+1) (by omega) (by omega)
   |false=>
    obtain ⟨j,hj,e2⟩:=ba hb hl (p:=p+1) (n:=3) (by omega) (by omega) (by omega) (by omega)
    obtain ⟨d',rfl⟩:∃d',d=d'+1:=⟨d-1,by omega⟩
    have hw:w64 (((d'+1:Nat):Int)-1)=(d':Int):=by rw[aN (by omega) (by omega)];omega
    have hp2:2^(d'+1)=2*2^d':=by rw[Nat.pow_succ];omega
    have hp3:2^(d'+1+1)=4*2^d':=by rw[Nat.pow_succ,hp2];omega
    obtain ⟨t1,p1,g1,a1,a2,a3,a4⟩:=BW k d' (p+1+1) (by omega) (by omega) (by omega) (by omega)
    have hpd:1<=2^d':=Nat.one_le_two_pow
    obtain ⟨t2,p2,g2,b1,b2,b3,b4⟩:=BW k d' p1 (by omega) (by omega) (by omega) (by omega)
    have l1:=t1.cq
    have l2:=t2.cq
    have o1:=FC 3 1 t1.flat (by omega)
    have o2:=BJ 4 2 t1.flat t2.flat (by omega)
    have o3:=BJ 5 2 t1.flat t2.flat (by omega)
    simp only[jS,e2,jI,jC,jD,C.I_i,hw,g1,C.L_l]
    cases hj0:((j:Int)==0) with
    |true=>
     simp only[jR,o1,call2,jI,jC,jD,C.L_l,jV]
     exact ⟨.un t1,p1,rfl,a1,by simp only[Tr.sz];omega,by omega,by omega⟩
    |false=>
     simp only[jS,g2,jI,jC,jD,C.L_l]
     cases hj1:((j:Int)==1) with
     |true=>
      simp only[jR,o2,call2,jI,jC,jD,C.L_l,jV]
      exact ⟨.bn 4 t1 t2,p2,rfl,⟨.inl rfl,a1,b1⟩,by simp only[Tr.sz];omega,by omega,by omega⟩
     |false=>
      simp only[jS,o3,call2,jI,jC,jD,C.L_l,jV]
      exact ⟨.bn 5 t1 t2,p2,rfl,⟨.inr rfl,a1,b1⟩,by simp only[Tr.sz];omega,by omega,by omega⟩
theorem HR {p:Int} (h0:0<=p) (h1:p<=1125899906842624-2000):∃(s:Str) (p':Int),eY [.l bs,.i p]=some [.s s,.l bs,.i p']/\s.size<=200/\p<=p'/\p'<=p+40:=by
 obtain ⟨k,hk,e⟩:=ba hb hl h0 (show p<=1125899906842624 by omega) (n:=2) (by omega) (by omega)
 simp only[eY,eY.d1,apL,jC,jD,e,call3,jI,C.I_i]
 cases hq:((k:Int)==0) with
 |true=>simp only[jR,jV];exact ⟨_,_,rfl,by decide,by omega,by omega⟩
 |false=>
  obtain ⟨i,hi,e2⟩:=ba hb hl (p:=p+1) (n:=3) (by omega) (by omega) (by omega) (by omega)
  simp only[jS,e2,jI,jC,jD,C.I_i]
  cases hq2:((i:Int)==0) with
  |true=>
   obtain ⟨j,hj,e3⟩:=ba hb hl (p:=p+1+1) (n:=6) (by omega) (by omega) (by omega) (by omega)
   simp only[jR,e3,jI,jC,jD,C.I_i,jX,Mt]
   rcases j with _|_|_|_|_|_|j
   ·exact ⟨_,_,rfl,by decide,by omega,by omega⟩
   ·exact ⟨_,_,rfl,by decide,by omega,by omega⟩
   ·exact ⟨_,_,rfl,by decide,by omega,by omega⟩
   ·exact ⟨_,_,rfl,by decide,by omega,by omega⟩
   ·exact ⟨_,_,rfl,by decide,by omega,by omega⟩
   ·exact ⟨_,_,rfl,by decide,by omega,by omega⟩
   ·omega
  |false=>
   have hF:=mr
   obtain ⟨t,p',g,a1,a2,a3,a4⟩:=BW hb hl jd 2 (p+1+1) (by omega) (by omega) (by omega) (by omega)
   have g:ej [.i 2,.l bs,.i (p+1+1)]=some [.l bs,.i p',.l t.flat]:=g
   obtain ⟨s,s1,s2⟩:=JP (t:=t) (by omega) a1
   simp only[jS,g,s1,ad,jI,jC,jD,C.L_l,jV]
   exact ⟨s,p',rfl,s2,by omega,by omega⟩
end
theorem IG:∀(k n:Nat),n<k->n<=1000->∃s:Str,dX.g k 0 [.i n]=some [.s s]/\s.size<=n+1
 |0,n,h,_=>by omega
 |k+1,n,h,hn=>by
  have hs:∀x,dX.g (k+1) 0 x=dX.step (dX.g k 0) x:=fun _=>rfl
  rw[hs]
  have n0:¬((n:Int)<0):=by omega
  simp only[dX.step,dX.d1,apL,jC,C.I_i,n0,Mu,jS]
  have mb:∀x:C,(lJ (rows [[x]])).size=1:=fun _=>rfl
  by_cases h10:(n:Int)<10
  ·simp only[h10,Mt,jR,jV]
   exact ⟨_,rfl,by rw[mb];omega⟩
  ·have e:(n:Int).tdiv 10=((n/10:Nat):Int):=by rw[Int.tdiv_eq_ediv_of_nonneg (by omega)];omega
   have w:w64 ((n:Int).tdiv 10)=((n/10:Nat):Int):=by rw[e,aN (by omega) (by omega)]
   obtain ⟨s,g,hz⟩:=IG k (n/10) (by omega) (by omega)
   have c1:s.size+1<=4294967296:=by omega
   simp only[h10,Mu,jS,w,g,ad,jI,jC,C.S_s,mb,c1,Mt,jR,jV]
   exact ⟨_,rfl,by rw[MK,mb];omega⟩
theorem F5 {n:Nat} (hn:n<=1000):∃s:Str,dX [.i n]=some [.s s]/\s.size<=n+1:=IG jd n (by have:=mr;omega) hn
end Go.Ev
namespace Go.Ev
def S20 (ms:List Str):Prop:=∀m,m∈ms->m.size<=20
theorem S20.JX {ms:List Str} (h:S20 ms) {x:Str} (hx:x.size<=20):S20 (ms++[x]):=fun m hm=>by
 rcases MO.1 hm with hm|hm
 ·exact h m hm
 ·rw[MH.1 hm];exact hx
theorem xQ (ms:List Str) (x:Str):ms.map sE++[[C.s x]]=(ms++[x]).map sE:=by simp[sE]
section
variable {bs:List (List C)} (hb:BY bs) (hl:bs.length<=2000)
include hb hl
theorem Kx {ms:List Str} (h:S20 ms) (hm:ms.length<=10) {p:Int} (h0:0<=p) (h1:p<=1125899906842624-10):
  ∃(ms':List Str) (p':Int),apn 3 cS.d1 [.l bs,.i p,.l (ms.map sE)]=some (.ret [.l bs,.i p',.l (ms'.map sE)])/\S20 ms'/\ms'.length<=ms.length+1/\p<=p'/\p'<=p+2:=by
 obtain ⟨k,hk,e⟩:=ba hb hl h0 (show p<=1125899906842624 by omega) (n:=2) (by omega) (by omega)
 simp only[cS.d1,apL,jC,jD,e,call3,jI,C.I_i,C.L_l,jW]
 cases hq:((k:Int)==0) with
 |false=>simp only[jS];exact ⟨ms,p+1,rfl,h,by omega,by omega,by omega⟩
 |true=>
  obtain ⟨j,hj,e2⟩:=ba hb hl (p:=p+1) (n:=2) (by omega) (by omega) (by omega) (by omega)
  simp only[jR,e2,jI,jC,jD,C.I_i,jX,Mt]
  have c1:ms.length+1<=4294967296:=by omega
  rcases j with _|_|j
  ·refine ⟨ms++[Go.Ev.bs #[115,115,100]],p+1+1,?_,h.JX (by decide),by simp,by omega,by omega⟩
   rw[←xQ]
   simp[rows,c1]
  ·refine ⟨ms++[Go.Ev.bs #[115,115,100,61,97]],p+1+1,?_,h.JX (by decide),by simp,by omega,by omega⟩
   rw[←xQ]
   simp[rows,c1]
  ·omega
theorem Kg {ms:List Str} (h:S20 ms) (hm:ms.length<=9) {p:Int} (h0:0<=p) (h1:p<=1125899906842624-20):
  ∃(ms':List Str) (p':Int),apn 3 cS.d2 [.l bs,.i p,.l (ms.map sE)]=some (.ret [.l bs,.i p',.l (ms'.map sE)])/\S20 ms'/\ms'.length<=ms.length+2/\p<=p'/\p'<=p+3:=by
 obtain ⟨k,hk,e⟩:=ba hb hl h0 (show p<=1125899906842624 by omega) (n:=3) (by omega) (by omega)
 have c1:ms.length+1<=4294967296:=by omega
 simp only[cS.d2,apL,jC,jD,e,call3,jI,C.I_i,C.L_l,jW,rows,Mn,Mo,My,c1,Mt,jR]
 cases hq:((k:Int)==0) with
 |false=>
  obtain ⟨ms',p',g,a1,a2,a3,a4⟩:=Kx hb hl h (by omega) (p:=p+1) (by omega) (by omega)
  simp only[jS,jJ]
  exact ⟨ms',p',g,a1,by omega,by omega,by omega⟩
 |true=>
  obtain ⟨ms',p',g,a1,a2,a3,a4⟩:=Kx hb hl (ms:=ms++[Go.Ev.bs #[111,108,100]]) (h.JX (by decide)) (by simp;omega) (p:=p+1) (by omega) (by omega)
  simp only[jR,jJ,xQ]
  simp only[MP,Mn,Mo] at a2
  exact ⟨ms',p',g,a1,by omega,by omega,by omega⟩
theorem IT {ms:List Str} (h:S20 ms) (hm:ms.length<=8) {p:Int} (h0:0<=p) (h1:p<=1125899906842624-30):
  ∃(ms':List Str) (p':Int),apn 3 cS.d3 [.l bs,.i p,.l (ms.map sE)]=some (.ret [.l bs,.i p',.l (ms'.map sE)])/\S20 ms'/\ms'.length<=ms.length+3/\p<=p'/\p'<=p+4:=by
 obtain ⟨k,hk,e⟩:=ba hb hl h0 (show p<=1125899906842624 by omega) (n:=3) (by omega) (by omega)
 have c1:ms.length+1<=4294967296:=by omega
 simp only[cS.d3,apL,jC,jD,e,call3,jI,C.I_i,C.L_l,jW,rows,Mn,Mo,My,c1,Mt,jR]
 cases hq:((k:Int)==0) with
 |false=>
  obtain ⟨ms',p',g,a1,a2,a3,a4⟩:=Kg hb hl h (by omega) (p:=p+1) (by omega) (by omega)
  simp only[jS,jJ]
  exact ⟨ms',p',g,a1,by omega,by omega,by omega⟩
 |true=>
  obtain ⟨ms',p',g,a1,a2,a3,a4⟩:=Kg hb hl (ms:=ms++[Go.Ev.bs #[103,112,117]]) (h.JX (by decide)) (by simp;omega) (p:=p+1) (by omega) (by omega)
  simp only[jR,jJ,xQ]
  simp only[MP,Mn,Mo] at a2
  exact ⟨ms',p',g,a1,by omega,by omega,by omega⟩
theorem H9 {p:Int} (h0:0<=p) (h1:p<=1125899906842624-40):
  ∃(ms:List Str) (p':Int),cS [.l bs,.i p]=some [.l bs,.i p',.l (ms.map sE)]/\S20 ms/\ms.length<=10/\p<=p'/\p'<=p+6:=by
 obtain ⟨k,hk,e⟩:=ba hb hl h0 (show p<=1125899906842624 by omega) (n:=2) (by omega) (by omega)
 simp only[cS,cS.d4,apL,jC,jD,e,call3,jI,C.I_i]
 cases hq:((k:Int)==0) with
 |false=>
  obtain ⟨ms',p',g,a1,a2,a3,a4⟩:=IT hb hl (ms:=[]) (fun _ h=>by simp at h) (by simp) (p:=p+1) (by omega) (by omega)
  have g:apn 3 cS.d3 [.l bs,.i (p+1),.l af]=_:=g
  simp only[jS,jJ,g,jV]
  simp only[Mo] at a2
  exact ⟨ms',p',rfl,a1,by omega,by omega,by omega⟩
 |true=>
  obtain ⟨j,hj,e2⟩:=ba hb hl (p:=p+1) (n:=2) (by omega) (by omega) (by omega) (by omega)
  simp only[jR,e2,jI,jC,jD,C.I_i,jX,Mt]
  rcases j with _|_|j
  ·obtain ⟨ms',p',g,a1,a2,a3,a4⟩:=IT hb hl (ms:=[Go.Ev.bs #[99,111,108,111,114,61]++Go.Ev.bs #[114,101,100]]) (fun m h=>by rw[MH.1 h];decide) (by simp) (p:=p+1+1) (by omega) (by omega)
   simp only[MD,MC,sE,Mn,Mo] at g a2
   have g':aU (apn 3 cS.d3 [.l bs,.i (p+1+1),.l [[.s (Go.Ev.bs #[99,111,108,111,114,61]++Go.Ev.bs #[114,101,100])]]])=some [.l bs,.i p',.l (ms'.map sE)]:=by rw[g];rfl
   exact ⟨ms',p',g',a1,by omega,by omega,by omega⟩
  ·obtain ⟨ms',p',g,a1,a2,a3,a4⟩:=IT hb hl (ms:=[Go.Ev.bs #[99,111,108,111,114,61]++Go.Ev.bs #[97]]) (fun m h=>by rw[MH.1 h];decide) (by simp) (p:=p+1+1) (by omega) (by omega)
   simp only[MD,MC,sE,Mn,Mo] at g a2
   have g':aU (apn 3 cS.d3 [.l bs,.i (p+1+1),.l [[.s (Go.Ev.bs #[99,111,108,111,114,61]++Go.Ev.bs #[97])]]])=some [.l bs,.i p',.l (ms'.map sE)]:=by rw[g];rfl
   exact ⟨ms',p',g',a1,by omega,by omega,by omega⟩
  ·omega
theorem IE {nm:Str} (hn:nm.size<=100) {p:Int} (h0:0<=p) (h1:p<=1125899906842624-100):
  ∃(b:Bt) (p':Int),gw [.s nm,.l bs,.i p]=some [.s b.name,.s b.zone,.i b.room,.i b.hold,.b b.shut,.l bs,.i p',.l (b.marks.map sE)]/\b.name=nm/\b.Sz 1000/\p<=p'/\p'<=p+10:=by
 obtain ⟨k,hk,e⟩:=ba hb hl h0 (show p<=1125899906842624 by omega) (n:=3) (by omega) (by omega)
 obtain ⟨ms,p1,g,a1,a2,a3,a4⟩:=H9 hb hl (p:=p+1) (by omega) (by omega)
 obtain ⟨r,hr,e2⟩:=ba hb hl (p:=p1) (n:=20) (by omega) (by omega) (by omega) (by omega)
 obtain ⟨h,hh,e3⟩:=ba hb hl (p:=p1+1) (n:=20) (by omega) (by omega) (by omega) (by omega)
 obtain ⟨s,hs,e4⟩:=ba hb hl (p:=p1+1+1) (n:=10) (by omega) (by omega) (by omega) (by omega)
 simp only[gw,gw.d1,apL,jC,jD,e,g,e2,e3,e4,call3,jI,C.I_i,C.L_l,jX,Mt,jR]
 have key:∀z:Str,z.size<=20->∃(b:Bt) (p':Int),some [C.s nm,C.s z,C.i (w64 (4+(r:Int))),C.i (w64 (4+(h:Int))),C.b ((s:Int)==0),C.l bs,C.i (p1+1+1+1),C.l (ms.map sE)]=some [.s b.name,.s b.zone,.i b.room,.i b.hold,.b b.shut,.l bs,.i p',.l (b.marks.map sE)]/\b.name=nm/\b.Sz 1000/\p<=p'/\p'<=p+10:=fun z hz=>
  ⟨⟨nm,z,ms,_,_,_⟩,p1+1+1+1,rfl,rfl,⟨by show nm.size<=1000;omega,by show z.size<=1000;omega,by show ms.length<=1000;omega,fun m hm=>MR (a1 m hm) (by decide)⟩,by omega,by omega⟩
 rcases k with _|_|_|k
 ·exact key _ (show (Go.Ev.bs #[101,97,115,116]).size<=20 by decide)
 ·exact key _ (show (Go.Ev.bs #[119,101,115,116]).size<=20 by decide)
 ·exact key _ (show (Go.Ev.bs #[110,111,114,116,104]).size<=20 by decide)
 ·omega
theorem yk (a e f g h i j k l m n o q r s t u v w x y z a0:C):∀(c:Nat) (b p:Int) (L:List Lk),b<=c->-10<=b->c<=10->0<=p->p<=1125899906842624-10000+(0-100)*c->L.length+c<=20->(∀x,x∈L->x.sel.size<=200)->
  ∃(L':List Lk) (p':Int),lim (apn 28 cg.d1) [a,.i b,.l bs,.i p,e,f,g,h,i,j,k,l,m,n,o,q,r,s,t,u,v,w,x,y,z,a0,.l [],.l (L.map Lk.e)]=some (.brk 0 [a,.l bs,.i p',e,f,g,h,i,j,k,l,m,n,o,q,r,s,t,u,v,w,x,y,z,a0,.l [],.l (L'.map Lk.e)])/\L'.length<=20/\(∀x,x∈L'->x.sel.size<=200)/\p<=p'/\p'<=p+50*c
 |c,b,p,L,hbc,hb0,hc,h0,h1,hL,hz=>by
  by_cases hpos:b>0
  ·obtain ⟨c',rfl⟩:∃c',c=c'+1:=⟨c-1,by omega⟩
   obtain ⟨sl,p1,g1,a1,a2,a3⟩:=HR hb hl (p:=p) h0 (by omega)
   obtain ⟨wt,hw,g2⟩:=ba hb hl (p:=p1) (n:=19) (by omega) (by omega) (by omega) (by omega)
   have ww:w64 (b-1)=b-1:=aN (by omega) (by omega)
   have c1:L.length+1<=4294967296:=by omega
   have hstep:apn 28 cg.d1 [a,.i b,.l bs,.i p,e,f,g,h,i,j,k,l,m,n,o,q,r,s,t,u,v,w,x,y,z,a0,.l [],.l (L.map Lk.e)]=some (.again [a,.i (b-1),.l bs,.i (p1+1),e,f,g,h,i,j,k,l,m,n,o,q,r,s,t,u,v,w,x,y,z,a0,.l [],.l ((L++[Lk.mk sl (w64 ((wt:Int)-9))]).map Lk.e)]):=by
    simp only[apL,jC,jD,cg.d1,C.I_i,hpos,Mt,jR,g1,g2,call3,jI,C.L_l,jW,rows,Mn,Mo,My,c1,ww,MZ,MD,MC,Lk.e]
   rw[aD hstep]
   obtain ⟨L',p',q1,q2,q3,q4,q5⟩:=yk a e f g h i j k l m n o q r s t u v w x y z a0 c' (b-1) (p1+1) (L++[Lk.mk sl (w64 ((wt:Int)-9))]) (by omega) (by omega) (by omega) (by omega) (by omega) (by simp;omega) (fun y hy=>by
    rcases MO.1 hy with hy|hy
    ·exact hz y hy
    ·rw[MH.1 hy];exact a1)
   exact ⟨L',p',q1,q2,q3,by omega,by omega⟩
  ·refine ⟨L,p,aR ?_,by omega,hz,by omega,by omega⟩
   simp only[apL,jC,jD,cg.d1,C.I_i,hpos,Mu,jS,C.L_l]
end
end Go.Ev
namespace Go.Ev
section
variable {bs:List (List C)} (hb:BY bs) (hl:bs.length<=2000)
include hb hl
end
end Go.Ev
namespace Go.Ev
theorem Kl {l:List Cp} (nm:Str) {body:List C->R} {S:Nat->List C} (hs:∀i (h:i<l.length),body (S i)=if sLt l[i].name nm=true then some (.again (S (i+1))) else some (.brk 5 (S i))) (he:body (S l.length)=some (.brk 5 (S l.length))):
  ∀d i,i+d=l.length->∃j,j<=l.length/\lim body (S i)=some (.brk 5 (S j))
 |0,i,h=>by
  have:i=l.length:=by omega
  subst this
  exact ⟨_,Mp _,aR he⟩
 |d+1,i,h=>by
  have hi:i<l.length:=by omega
  by_cases hc:sLt l[i].name nm=true
  ·obtain ⟨j,a,b⟩:=Kl nm hs he d (i+1) (by omega)
   exact ⟨j,a,by rw[aD (by rw[hs i hi,if_pos hc])];exact b⟩
  ·exact ⟨i,by omega,aR (by rw[hs i hi,if_neg hc])⟩
section
variable {f:Fl} (hz:f.Sz 1048576)
include hz
end
end Go.Ev
namespace Go.Ev
section
variable {f:Fl} (hz:f.Sz 1048576)
include hz
end
structure Dr (bts:List Bt) (svs:List Sv) (pk:Bool) (f:Fl):Prop where
 b:f.bts=bts
 s:f.svs=svs
 p:f.pack=pk
 n:f.cps.length<=60
 z:∀c,c∈f.cps->c.Sz 1000
 v:f.cps=[]∨bl f=true
theorem Cp.Sz.up {c:Cp} (h:c.Sz 1000):c.Sz 1048576:=⟨by have:=h.1;omega,by have:=h.2.1;omega,by have:=h.2.2.1;omega,by have:=h.2.2.2.1;omega,by have:=h.2.2.2.2.1;omega,by have:=h.2.2.2.2.2.1;omega,by have:=h.2.2.2.2.2.2.1;omega,fun x hx=>MR (h.2.2.2.2.2.2.2 x hx) (by decide)⟩
theorem Bt.Sz.up {b:Bt} (h:b.Sz 1000):b.Sz 1048576:=⟨by have:=h.1;omega,by have:=h.2.1;omega,by have:=h.2.2.1;omega,fun x hx=>MR (h.2.2.2 x hx) (by decide)⟩
theorem Fl.Sz.up {f:Fl} (h:f.Sz 1000):f.Sz 1048576:=⟨⟨by have:=h.1.1;omega,fun b hb=>(h.1.2 b hb).up⟩,⟨by have:=h.2.1.1;omega,fun s hs=>MR (h.2.1.2 s hs) (by decide)⟩,by have:=h.2.2.1;omega,fun c hc=>(h.2.2.2 c hc).up⟩
section
variable {bts:List Bt} {svs:List Sv} {pk:Bool} (hbt:bts.length<=12/\∀b,b∈bts->b.Sz 1000) (hsv:svs.length<=30/\∀s,s∈svs->s.Sz 1000)
include hbt hsv
theorem Dr.szD {f:Fl} (D:Dr bts svs pk f):f.Sz 1000:=by
 refine ⟨?_,?_,by have:=D.n;omega,D.z⟩
 ·rw[D.b];exact ⟨by omega,hbt.2⟩
 ·rw[D.s];exact ⟨by omega,hsv.2⟩
end
end Go.Ev
namespace Go.Ev
section
variable {bs:List (List C)} (hb:BY bs) (hl:bs.length<=2000)
include hb hl
theorem LO (pk:Bool):∀(d n:Nat) (L:List Bt) (p:Int),n=L.length+d->n<=10->(∀b,b∈L->b.Sz 1000)->0<=p->p<=1125899906842624-40000+(0-100)*d->
  ∃(L':List Bt) (p':Int),lim (apn 12 aQ.d1) [.i n,.i L.length,.l bs,.i p,.b false,.b pk,.l [],.l [],.l [],.l (L.map Bt.e),.l [],.l []]=some (.brk 0 [.l bs,.i p',.b false,.b pk,.l [],.l [],.l [],.l (L'.map Bt.e),.l [],.l []])/\L'.length=n/\(∀b,b∈L'->b.Sz 1000)/\p<=p'/\p'<=p+10*d:=by
 intro d
 induction d with
 |zero=>
  intro n L p hn hn10 hL h0 h1
  refine ⟨L,p,aR ?_,by omega,hL,by omega,by omega⟩
  have:¬((L.length:Int)<(n:Int)):=by omega
  simp only[apL,jC,jD,aQ.d1,C.I_i,this,Mu,jS,C.L_l]
 |succ d ih=>
  intro n L p hn hn10 hL h0 h1
  obtain ⟨s,g2,hs⟩:=F5 (n:=L.length) (by omega)
  have b1:(Go.Ev.bs #[98]).size=1:=rfl
  obtain ⟨b,p1,g1,a1,a2,a3,a4⟩:=IE hb hl (nm:=Go.Ev.bs #[98]++s) (by rw[MK,b1];omega) (p:=p) h0 (by omega)
  have c0:(L.length:Int)<(n:Int):=by omega
  have c1:1+s.size<=4294967296:=by omega
  have c2:L.length+1<=4294967296:=by omega
  have ww:w64 ((L.length:Int)+1)=(((L++[b]).length:Nat):Int):=by rw[aN (by omega) (by omega)];simp
  obtain ⟨L',p',q1,q2,q3,q4,q5⟩:=ih n (L++[b]) p1 (by simp;omega) hn10 (fun x hx=>by
   rcases MO.1 hx with hx|hx
   ·exact hL x hx
   ·rw[MH.1 hx];exact a2) (by omega) (by omega)
  refine ⟨L',p',?_,q2,q3,by omega,by omega⟩
  rw[←q1]
  apply aD
  simp only[apL,jC,jD,aQ.d1,C.I_i,c0,Mt,jR,g2,ad,jI,C.S_s,b1,c1,g1,call8,C.L_l,jW,rows,Mn,Mo,My,c2,ww,MZ,MD,MC,Bt.e]
theorem LI (pk:Bool) (bt:List (List C)):∀(d:Nat) (L:List Sv) (p:Int),L.length+d=4->(∀s,s∈L->s.Sz 1000)->0<=p->p<=1125899906842624-40000+(0-100)*d->
  ∃(L':List Sv) (p':Int),lim (apn 11 aQ.d2) [.i L.length,.l bs,.i p,.b false,.b pk,.l [],.l [],.l [],.l bt,.l (L.map Sv.e),.l []]=some (.brk 2 [.l bs,.i p',.b false,.b pk,.l [],.l [],.l [],.l bt,.l (L'.map Sv.e),.l []])/\L'.length=4/\(∀s,s∈L'->s.Sz 1000)/\p<=p'/\p'<=p+10*d:=by
 intro d
 induction d with
 |zero=>
  intro L p hn hL h0 h1
  refine ⟨L,p,aR ?_,by omega,hL,by omega,by omega⟩
  have:¬((L.length:Int)<4):=by omega
  simp only[apL,jC,jD,aQ.d2,C.I_i,this,Mu,jS,C.L_l]
 |succ d ih=>
  intro L p hn hL h0 h1
  obtain ⟨k,hk,e⟩:=ba hb hl h0 (show p<=1125899906842624 by omega) (n:=5) (by omega) (by omega)
  have c0:(L.length:Int)<4:=by omega
  have c2:L.length+1<=4294967296:=by omega
  have hsv:∃sv:Str,((rows [[C.s (Go.Ev.bs #[99,97,99,104,101])],[C.s (Go.Ev.bs #[100,98])],[C.s (Go.Ev.bs #[106,111,98])],[C.s (Go.Ev.bs #[119,101,98])]]).getD L.length []).getD 0 .nil=.s sv/\sv.size<=10:=by
   generalize L.length=n at c0
   rcases n with _|_|_|_|n
   ·exact ⟨_,rfl,by decide⟩
   ·exact ⟨_,rfl,by decide⟩
   ·exact ⟨_,rfl,by decide⟩
   ·exact ⟨_,rfl,by decide⟩
   ·omega
  obtain ⟨sv,v1,v2⟩:=hsv
  have l1:(L.length:Int)<((rows [[C.s (Go.Ev.bs #[99,97,99,104,101])],[C.s (Go.Ev.bs #[100,98])],[C.s (Go.Ev.bs #[106,111,98])],[C.s (Go.Ev.bs #[119,101,98])]]).length:Int):=c0
  have ww:w64 ((L.length:Int)+1)=(((L++[(⟨sv,k⟩:Sv)]).length:Nat):Int):=by rw[aN (by omega) (by omega)];simp
  obtain ⟨L',p',q1,q2,q3,q4,q5⟩:=ih (L++[⟨sv,k⟩]) (p+1) (by simp;omega) (fun x hx=>by
   rcases MO.1 hx with hx|hx
   ·exact hL x hx
   ·rw[MH.1 hx];show sv.size<=1000;omega) (by omega) (by omega)
  refine ⟨L',p',?_,q2,q3,by omega,by omega⟩
  rw[←q1]
  apply aD
  simp only[apL,jC,jD,aQ.d2,C.I_i,c0,l1,Mt,jR,jX,jY,v1,e,call3,jI,C.L_l,jW]
  simp only[rows,Mn,Mo,My,c2,ww,MZ,MD,MC,Sv.e,Mt,jR]
section
variable {bts:List Bt} {svs:List Sv} {pk:Bool} (hbt:bts.length<=12/\∀b,b∈bts->b.Sz 1000) (hsv:svs.length<=30/\∀s,s∈svs->s.Sz 1000)
include hbt hsv
end
end
end Go.Ev
namespace Go.Ev
section
variable {bs:List (List C)} (hb:BY bs) (hl:bs.length<=2000)
include hb hl
section
variable {bts:List Bt} {svs:List Sv} {pk:Bool} (hbt:(1<=bts.length/\bts.length<=12)/\∀b,b∈bts->b.Sz 1000) (hsv:svs.length<=30/\∀s,s∈svs->s.Sz 1000)
include hbt hsv
end
end
end Go.Ev
namespace Go.Ev
theorem Hn:∀(m n:Nat) (x acc:Str),n<=m->acc.size+n*x.size<=400->x.size<=800->n<=1000->
  ∃s:Str,lim (apn 3 fc.d1) [.s x,.i n,.s acc]=some (.brk 0 [.s s])/\s.size<=400:=by
 intro m
 induction m with
 |zero=>
  intro n x acc hn h1 h2 h3
  obtain rfl:n=0:=by omega
  exact ⟨acc,aR rfl,by omega⟩
 |succ m ih=>
  intro n x acc hn h1 h2 h3
  by_cases h0:n=0
  ·subst h0;exact ⟨acc,aR rfl,by omega⟩
  ·have c0:((n:Int)>0):=by omega
   have hx:x.size<=400:=by
    have:1*x.size<=n*x.size:=MA _ (by omega)
    omega
   have hd:n=2*(n/2)+n%2:=by omega
   have w:w64 ((n:Int).tdiv 2)=((n/2:Nat):Int):=by
    rw[show (n:Int).tdiv 2=((n/2:Nat):Int) by rw[Int.tdiv_eq_ediv_of_nonneg (by omega)];omega,aN (by omega) (by omega)]
   have t:(n:Int).tmod 2=((n%2:Nat):Int):=by rw[Int.tmod_eq_emod_of_nonneg (by omega)];omega
   have hs:(x++x).size=x.size+x.size:=MK
   have hm:n*x.size=n/2*(x.size+x.size)+n%2*x.size:=by
    conv=>lhs;rw[hd]
    rw[Nat.add_mul,Nat.mul_add,Nat.mul_assoc,Nat.two_mul]
   have c1:x.size+x.size<=4294967296:=by omega
   have c2:acc.size+x.size<=4294967296:=by omega
   rcases Nat.mod_two_eq_zero_or_one n with e|e
   ·obtain ⟨s,g1,g2⟩:=ih (n/2) (x++x) acc (by omega) (by rw[hs];rw[e] at hm;omega) (by rw[hs];omega) (by omega)
    refine ⟨s,?_,g2⟩
    rw[←g1]
    apply aD
    simp only[apL,jC,jD,fc.d1,C.I_i,C.S_s,c0,Mt,jR,t,e,w,c1,show (((0:Nat):Int)==1)=false from rfl,jS]
   ·obtain ⟨s,g1,g2⟩:=ih (n/2) (x++x) (acc++x) (by omega) (by rw[hs,MK];rw[e] at hm;omega) (by rw[hs];omega) (by omega)
    refine ⟨s,?_,g2⟩
    rw[←g1]
    apply aD
    simp only[apL,jC,jD,fc.d1,C.I_i,C.S_s,c0,Mt,jR,t,e,w,c1,c2,show (((1:Nat):Int)==1)=true from rfl]
theorem F9 (x:Str) (n:Nat) (h1:n<=300) (h2:x.size=1):∃s:Str,fc [.s x,.i n]=some [.s s]/\s.size<=400:=by
 have e0:(Go.Ev.bs #[]).size=0:=rfl
 obtain ⟨s,g1,g2⟩:=Hn n n x (Go.Ev.bs #[]) (by omega) (by rw[e0,h2];omega) (by omega) (by omega)
 refine ⟨s,?_,g2⟩
 simp only[fc,fc.d3,apL,jC,jD,g1,aq,fc.d2]
 rfl
section
variable {bs:List (List C)} (hb:BY bs) (hl:bs.length<=2000)
include hb hl
theorem Jr (pk:Bool) (sv:List (List C)) (p:Int):∀(d:Nat) (L:List Bt),L.length+d=2->(∀b,b∈L->b.Sz 1000)->
  ∃L':List Bt,lim (apn 11 cQ.d1) [.i L.length,.l bs,.i p,.b false,.b pk,.l [],.l [],.l [],.l (L.map Bt.e),.l sv,.l []]=some (.brk 0 [.l bs,.i p,.b false,.b pk,.l [],.l [],.l [],.l (L'.map Bt.e),.l sv,.l []])/\L'.length=2/\(∀b,b∈L'->b.Sz 1000):=by
 intro d
 induction d with
 |zero=>
  intro L hn hL
  refine ⟨L,aR ?_,by omega,hL⟩
  have:¬((L.length:Int)<2):=by omega
  simp only[apL,jC,jD,cQ.d1,C.I_i,this,Mu,jS,C.L_l]
 |succ d ih=>
  intro L hn hL
  obtain ⟨s,g2,hs⟩:=F5 (n:=L.length) (by omega)
  have b1:(Go.Ev.bs #[98]).size=1:=rfl
  have c0:(L.length:Int)<2:=by omega
  have c1:1+s.size<=4294967296:=by omega
  have c2:L.length+1<=4294967296:=by omega
  have ww:w64 ((L.length:Int)+1)=(((L++[(⟨Go.Ev.bs #[98]++s,Go.Ev.bs #[101,97,115,116],[],30,30,false⟩:Bt)]).length:Nat):Int):=by rw[aN (by omega) (by omega)];simp
  obtain ⟨L',q1,q2,q3⟩:=ih (L++[⟨Go.Ev.bs #[98]++s,Go.Ev.bs #[101,97,115,116],[],30,30,false⟩]) (by simp;omega) (fun x hx=>by
   rcases MO.1 hx with hx|hx
   ·exact hL x hx
   ·rw[MH.1 hx]
    exact ⟨by show (Go.Ev.bs #[98]++s).size<=1000;rw[MK,b1];omega,by show (Go.Ev.bs #[101,97,115,116]).size<=1000;decide,by show 0<=1000;decide,fun m hm=>by simp at hm⟩)
  refine ⟨L',?_,q2,q3⟩
  rw[←q1]
  apply aD
  simp only[apL,jC,jD,cQ.d1,C.I_i,c0,Mt,jR,g2,ad,jI,C.S_s,b1,c1,C.L_l,jW,rows,Mn,Mo,My,c2,ww,MZ,MD,MC,Bt.e,af]
theorem Jw (pk:Bool) (bt sv:List (List C)) (A:Nat) (hA:A<=10):∀(d:Nat) (L:List Cp) (p:Int),L.length+d=A+2->(∀s,s∈L->s.Sz 1000)->0<=p->p<=1125899906842624-1000+(0-10)*d->
  ∃(L':List Cp) (p':Int),lim (apn 12 cQ.d2) [.i A,.i L.length,.l bs,.i p,.b false,.b pk,.l [],.l [],.l [],.l bt,.l sv,.l (L.map Cp.e)]=some (.brk 2 [.l bs,.i p',.b false,.b pk,.l [],.l [],.l [],.l bt,.l sv,.l (L'.map Cp.e)])/\L'.length<=20/\(∀s,s∈L'->s.Sz 1000)/\p<=p'/\p'<=p+10*d:=by
 intro d
 have w2:w64 ((A:Int)+2)=(A:Int)+2:=aN (by omega) (by omega)
 induction d with
 |zero=>
  intro L p hn hL h0 h1
  refine ⟨L,p,aR ?_,by omega,hL,by omega,by omega⟩
  have:¬((L.length:Int)<(A:Int)+2):=by omega
  simp only[apL,jC,jD,cQ.d2,C.I_i,w2,this,Mu,jS,C.L_l]
 |succ d ih=>
  intro L p hn hL h0 h1
  obtain ⟨k,hk,g1⟩:=ba hb hl h0 (show p<=1125899906842624 by omega) (n:=3) (by omega) (by omega)
  obtain ⟨m,hm,g2⟩:=ba hb hl (p:=p+1) (n:=2) (by omega) (by omega) (by omega) (by omega)
  obtain ⟨t,ht,g3⟩:=ba hb hl (p:=p+1+1) (n:=3) (by omega) (by omega) (by omega) (by omega)
  obtain ⟨u,hu,g4⟩:=ba hb hl (p:=p+1+1+1) (n:=4) (by omega) (by omega) (by omega) (by omega)
  have mb:∀x:C,(lJ (rows [[x]])).size=1:=fun _=>rfl
  have b1:(Go.Ev.bs #[99]).size=1:=rfl
  have c0:(L.length:Int)<(A:Int)+2:=by omega
  have c2:L.length+1<=4294967296:=by omega
  have c1:1+1<=4294967296:=by omega
  have w:w64 ((L.length:Int)+1)=(((L.length+1:Nat)):Int):=by rw[aN (by omega) (by omega)];rfl
  have key:∀(c:Cp) (q:Int),c.Sz 1000->p<=q->q<=p+10->∃(L':List Cp) (p':Int),(∃ys,some (Out.again [.i A,.i (L.length+1:Nat),.l bs,.i q,.b false,.b pk,.l [],.l [],.l [],.l bt,.l sv,.l (L.map Cp.e++[c.e])])=some (.again ys)/\lim (apn 12 cQ.d2) ys=some (.brk 2 [.l bs,.i p',.b false,.b pk,.l [],.l [],.l [],.l bt,.l sv,.l (L'.map Cp.e)]))/\L'.length<=20/\(∀s,s∈L'->s.Sz 1000)/\p<=p'/\p'<=p+10*(d+1:Nat):=fun c q hc q1 q2=>by
   obtain ⟨L',p',r1,r2,r3,r4,r5⟩:=ih (L++[c]) q (by simp;omega) (fun x hx=>by
    rcases MO.1 hx with hx|hx
    ·exact hL x hx
    ·rw[MH.1 hx];exact hc) (by omega) (by omega)
   rw[MP,MZ] at r1
   exact ⟨L',p',⟨_,rfl,r1⟩,r2,r3,by omega,by omega⟩
  have csz:∀(y:C) (rk rm:Int) (fx a:Str),fx.size<=10->a.size<=10->(Cp.mk (Go.Ev.bs #[99]++lJ (rows [[y]])) (Go.Ev.bs #[119,101,98]) rk 0 1 rm (Go.Ev.bs #[]) [] 0 (Go.Ev.bs #[]) fx a).Sz 1000:=fun y rk rm fx a h1 h2=>
   ⟨by show (Go.Ev.bs #[99]++lJ (rows [[y]])).size<=1000;rw[MK,b1,mb];decide,by show (Go.Ev.bs #[119,101,98]).size<=1000;decide,by show (Go.Ev.bs #[]).size<=1000;decide,by show (Go.Ev.bs #[]).size<=1000;decide,by show fx.size<=1000;omega,by show a.size<=1000;omega,by show 0<=1000;decide,fun x hx=>by simp at hx⟩
  have fin:∃(L':List Cp) (p':Int),(∃ys,apn 12 cQ.d2 [.i A,.i L.length,.l bs,.i p,.b false,.b pk,.l [],.l [],.l [],.l bt,.l sv,.l (L.map Cp.e)]=some (.again ys)/\lim (apn 12 cQ.d2) ys=some (.brk 2 [.l bs,.i p',.b false,.b pk,.l [],.l [],.l [],.l bt,.l sv,.l (L'.map Cp.e)]))/\L'.length<=20/\(∀s,s∈L'->s.Sz 1000)/\p<=p'/\p'<=p+10*(d+1:Nat):=by
   simp only[apL,jC,jD,cQ.d2,C.I_i,w2,c0,Mt,jR,C.S_s,b1,mb,c1,g1,g2,g3,g4,call3,jI,C.L_l,jW,w]
   cases decide ((L.length:Int)<(A:Int)) with
   |true=>
    simp only[jR,rows,Mn,Mo,My,c2,Mt]
    exact key (Cp.mk (Go.Ev.bs #[99]++lJ (rows [[_]])) (Go.Ev.bs #[119,101,98]) k 0 1 m (Go.Ev.bs #[]) [] 0 (Go.Ev.bs #[]) (Go.Ev.bs #[]) (Go.Ev.bs #[98,48])) _ (csz _ _ _ _ _ (by decide) (by decide)) (by omega) (by omega)
   |false=>
    cases decide ((t:Int)>0) with
    |true=>
     simp only[jR,jS,rows,Mn,Mo,My,c2,Mt]
     exact key (Cp.mk (Go.Ev.bs #[99]++lJ (rows [[_]])) (Go.Ev.bs #[119,101,98]) (w64 (1+(u:Int))) 0 1 m (Go.Ev.bs #[]) [] 0 (Go.Ev.bs #[]) (Go.Ev.bs #[98,48]) (Go.Ev.bs #[])) _ (csz _ _ _ _ _ (by decide) (by decide)) (by omega) (by omega)
    |false=>
     simp only[jR,jS,rows,Mn,Mo,My,c2,Mt]
     exact key (Cp.mk (Go.Ev.bs #[99]++lJ (rows [[_]])) (Go.Ev.bs #[119,101,98]) k 0 1 m (Go.Ev.bs #[]) [] 0 (Go.Ev.bs #[]) (Go.Ev.bs #[]) (Go.Ev.bs #[])) _ (csz _ _ _ _ _ (by decide) (by decide)) (by omega) (by omega)
  obtain ⟨L',p',⟨ys,r1,r2⟩,r3⟩:=fin
  exact ⟨L',p',by rw[aD r1,r2],r3⟩
theorem JT {p:Int} (h0:0<=p) (h1:p<=1125899906842624-70000):
  ∃(f:Fl) (p':Int),cQ [.l bs,.i p]=some [.b f.pack,.l bs,.i p',.l (f.bts.map Bt.e),.l (f.svs.map Sv.e),.l (f.cps.map Cp.e)]/\f.Sz 1000/\p<=p'/\p'<=p+30000:=by
 obtain ⟨c,hc,g1⟩:=ba hb hl h0 (show p<=1125899906842624 by omega) (n:=2) (by omega) (by omega)
 obtain ⟨n,hn,g2⟩:=ba hb hl (p:=p+1) (n:=9) (by omega) (by omega) (by omega) (by omega)
 obtain ⟨k,hk,g3⟩:=ba hb hl (p:=p+1+1) (n:=2) (by omega) (by omega) (by omega) (by omega)
 obtain ⟨bts,q1,q2,q3⟩:=Jr hb hl ((c:Int)==0) [[.s (Go.Ev.bs #[119,101,98]),.i n]] (p+1+1) 2 [] (by simp) (fun b hb=>by simp at hb)
 have w2:w64 (10-(k:Int))=((10-k:Nat):Int):=by rw[aN (by omega) (by omega)];omega
 obtain ⟨cps,p',r1,r2,r3,r4,r5⟩:=Jw hb hl ((c:Int)==0) (bts.map Bt.e) [[.s (Go.Ev.bs #[119,101,98]),.i n]] (10-k) (by omega) (10-k+2) [] (p+1+1+1) (by simp) (fun b hb=>by simp at hb) (by omega) (by omega)
 refine ⟨⟨((c:Int)==0),bts,[⟨Go.Ev.bs #[119,101,98],n⟩],cps⟩,p',?_,⟨⟨by show bts.length<=1000;omega,q3⟩,⟨by show 1<=1000;decide,fun s hs=>?_⟩,by show cps.length<=1000;omega,r3⟩,by omega,by omega⟩
 ·simp only[MC,Mo,Mr] at q1 r1
  simp only[cQ,cQ.d5,apL,jC,jD,g1,g2,g3,call3,jI,C.I_i,w2,af,rows,q1,aq,cQ.d4,C.L_l,r1,cQ.d3]
  rfl
 ·rw[MH.1 hs];show (Go.Ev.bs #[119,101,98]).size<=1000;decide
end
end Go.Ev
set_option maxHeartbeats 2000000
namespace Go.Ev
abbrev spR (bs:List (List C)) (g:Fl) (p:Int):List C:=[.b g.pack,.l (g.cps.map Cp.e),.l bs,.i p,.l (g.bts.map Bt.e),.l (g.svs.map Sv.e)]
abbrev spN (bs:List (List C)) (g:Fl) (p:Int):R:=some (.nrm [.l bs,.i p,.b false,.b g.pack,.l (g.cps.map Cp.e),.l [],.l [],.l [],.l (g.bts.map Bt.e),.l (g.svs.map Sv.e)])
def Fl.Sq (g:Fl):Prop:=g.Sz 1048576/\g.cps.length<=1000
theorem KR {bs:List (List C)} {X:R} {a b:Int} (h:∃(g:Fl) (p:Int),X=spN bs g p/\g.Sq/\a<=p/\p<=b):∃(g:Fl) (p:Int),aU (aZ X (apn 10 bK.d4))=some (spR bs g p)/\g.Sq/\a<=p/\p<=b:=by
 obtain ⟨g,p,h1,h2⟩:=h
 exact ⟨g,p,by rw[h1];rfl,h2⟩
theorem EY (L:List Str) (hL:∀s,s∈L->s.size<=400) {x:Nat} (h:x<L.length):∃v:Str,((L.map sE).getD x []).getD 0 .nil=.s v/\v.size<=400:=
 ⟨L[x],by rw[getD_map' sE h];rfl,hL _ (Mq h)⟩
theorem Hb (L:List Int) {x:Nat} (h:x<L.length):∃v:Int,((L.map fun n=>[C.i n]).getD x []).getD 0 .nil=.i v:=
 ⟨L[x],by rw[getD_map' (fun n=>[C.i n]) h];rfl⟩
theorem L7 (L:List (List Str)) (hL:∀s,s∈L->s.length<=20/\∀m,m∈s->m.size<=20) {x:Nat} (h:x<L.length):∃v:List Str,((L.map fun m=>[C.l (m.map sE)]).getD x []).getD 0 .nil=.l (v.map sE)/\v.length<=20/\∀m,m∈v->m.size<=20:=
 ⟨L[x],by rw[getD_map' (fun m=>[C.l (m.map sE)]) h];rfl,hL _ (Mq h)⟩
theorem qf {α:Type} {e:α->List C} {l:List α} {k:Nat} (hk:k<l.length) {i:Nat} {v:List C} {b:α} (h:aB (e l[k]) i v=e b):(l.map e).set k (aB ((l.map e).getD k []) i v)=(l.set k b).map e:=by
 rw[getD_map' e hk,h,Nr]
theorem Fk {f:Fl} (hz:f.Sz 1000) {b:Bt} (hb:b.Sz 1048576) (k:Nat):({f with bts:=f.bts.set k b}:Fl).Sq:=
 ⟨⟨⟨by show (f.bts.set k b).length<=_;rw[MI];exact hz.up.1.1,fun x hx=>(Nq hx).elim (hz.up.1.2 x) (fun h=>h▸hb)⟩,hz.up.2⟩,hz.2.2.1⟩
theorem Lp {f:Fl} (hz:f.Sz 1000) {b:Sv} (hb:b.Sz 1048576) (k:Nat):({f with svs:=f.svs.set k b}:Fl).Sq:=
 ⟨⟨hz.up.1,⟨by show (f.svs.set k b).length<=_;rw[MI];exact hz.up.2.1.1,fun x hx=>(Nq hx).elim (hz.up.2.1.2 x) (fun h=>h▸hb)⟩,hz.up.2.2⟩,hz.2.2.1⟩
theorem wW {f:Fl} (hz:f.Sz 1000) {b:Cp} (hb:b.Sz 1048576) (k:Nat):({f with cps:=f.cps.set k b}:Fl).Sq:=
 ⟨⟨hz.up.1,hz.up.2.1,by show (f.cps.set k b).length<=_;rw[MI];exact hz.up.2.2.1,fun x hx=>(Nq hx).elim (hz.up.2.2.2 x) (fun h=>h▸hb)⟩,by show (f.cps.set k b).length<=_;rw[MI];exact hz.2.2.1⟩
theorem Fi (l:List Cp):List.all (l.map Cp.e) (rQ [.str,.str,(.int .i64),(.int .i64),(.int .i64),(.int .i64),.str,(.sl 100),(.int .i64),.str,.str,.str])=true:=by
 rw[Ni]
 intro x hx
 obtain ⟨c,_,rfl⟩:=MT.1 hx
 rfl
theorem trS {l:List Cp} {n:Nat} (h:n<l.length) (x:List C) (y:Lk) (hy:y.e=x):
  ((l.map Cp.e).set n (aB ((l.map Cp.e).getD n []) 7 [.nil])).set n (aB (((l.map Cp.e).set n (aB ((l.map Cp.e).getD n []) 7 [.nil])).getD n []) 7 [.l ((((l.map Cp.e).getD n []).getD 7 .nil).L++[x])])=(l.set n {l[n] with likes:=l[n].likes++[y]}).map Cp.e:=by
 have h0:n<(l.map Cp.e).length:=by rw[jW];exact h
 rw[List.set_set]
 have h1:((l.map Cp.e).set n (aB ((l.map Cp.e).getD n []) 7 [.nil])).getD n []=aB ((l.map Cp.e).getD n []) 7 [.nil]:=by
  rw[Mm,List.getElem?_set_self h0];rfl
 rw[h1,getD_map' Cp.e h,Nr]
 congr 1
 simp only[Cp.e,aB,jC,jD,C.L_l,MZ,MD,MC,hy]
 rfl
section
variable {bs:List (List C)} (hb:BY bs) (hl:bs.length<=2000)
include hb hl
theorem LH (pk:Bool) (bt sv:List (List C)) (n B:Nat) (hB:B<=20):∀(d:Nat) (l:List Cp) (p:Int) (hn:n<l.length),B<=l[n].likes.length+d->d<=20->(∀c,c∈l->c.Sz 1048576)->0<=p->p<=1125899906842624-1000+(0-10)*d->
  ∃(l':List Cp) (p':Int),lim (apn 12 bK.d1) [.i n,.i B,.l bs,.i p,.b false,.b pk,.l [],.l [],.l [],.l bt,.l sv,.l (l.map Cp.e)]=some (.brk 1 [.l bs,.i p',.b false,.b pk,.l [],.l [],.l [],.l bt,.l sv,.l (l'.map Cp.e)])/\l'.length=l.length/\(∀c,c∈l'->c.Sz 1048576)/\p<=p'/\p'<=p+10*d:=by
 intro d
 induction d with
 |zero=>
  intro l p hn hd hd2 hL h0 h1
  refine ⟨l,p,aR ?_,rfl,hL,by omega,by omega⟩
  have:¬((l[n].likes.length:Int)<(B:Int)):=by omega
  simp only[apL,jC,jD,bK.d1,C.I_i,C.L_l,jW,jY,ltL hn,jX,Mt,jR]
  rw[getD_map' Cp.e hn]
  simp only[Cp.e,jC,jD,C.L_l,jW,this,Mu,jS]
 |succ d ih=>
  intro l p hn hd hd2 hL h0 h1
  by_cases hlt:l[n].likes.length<B
  ·obtain ⟨k,hk,g1⟩:=ba hb hl h0 (show p<=1125899906842624 by omega) (n:=2) (by omega) (by omega)
   obtain ⟨m,hm,g2⟩:=ba hb hl (p:=p+1) (n:=2) (by omega) (by omega) (by omega) (by omega)
   have hc:=hL _ (Mq hn)
   have he:Lk.e ⟨Go.Ev.bs #[],w64 (9+w64 ((k:Int)*(m:Int)))⟩=[.s (Go.Ev.bs #[]),.i (w64 (9+w64 ((k:Int)*(m:Int))))]:=rfl
   have ht:=trS hn _ _ he
   have hn':n<(l.set n {l[n] with likes:=l[n].likes++[⟨Go.Ev.bs #[],w64 (9+w64 ((k:Int)*(m:Int)))⟩]}).length:=by rw[MI];exact hn
   obtain ⟨l',p',q1,q2,q3,q4,q5⟩:=ih (l.set n {l[n] with likes:=l[n].likes++[⟨Go.Ev.bs #[],w64 (9+w64 ((k:Int)*(m:Int)))⟩]}) (p+1+1) hn' (by rw[List.getElem_set_self];show B<=(l[n].likes++[_]).length+d;rw[MP];simp only[Mn,Mo];omega) (by omega) (fun c hc'=>by
    rcases Nq hc' with hc'|rfl
    ·exact hL c hc'
    ·refine ⟨hc.1,hc.2.1,hc.2.2.1,hc.2.2.2.1,hc.2.2.2.2.1,hc.2.2.2.2.2.1,?_,fun x hx=>?_⟩
     ·show (l[n].likes++[_]).length<=_
      rw[MP];simp only[Mn,Mo];omega
     ·rcases MO.1 hx with hx|hx
      ·exact hc.2.2.2.2.2.2.2 x hx
      ·rw[MH.1 hx];show (Go.Ev.bs #[]).size<=_;decide) (by omega) (by omega)
   refine ⟨l',p',?_,by rw[q2,MI],q3,by omega,by omega⟩
   rw[←q1]
   apply aD
   have c1:(l[n].likes.length:Int)<(B:Int):=by omega
   have c2:l[n].likes.length+1<=4294967296:=by omega
   have hg7:(((l.map Cp.e).getD n []).getD 7 .nil).L.length=l[n].likes.length:=by rw[getD_map' Cp.e hn];simp[Cp.e]
   simp only[apL,jC,jD,bK.d1,C.I_i,C.L_l,jW,jY,ltL hn,jX,Mt,jR,hg7,c1,g1,g2,call3,jI,rows,Mn,Mo,My,c2,MI,ht,Fi]
  ·refine ⟨l,p,aR ?_,rfl,hL,by omega,by omega⟩
   have:¬((l[n].likes.length:Int)<(B:Int)):=by omega
   simp only[apL,jC,jD,bK.d1,C.I_i,C.L_l,jW,jY,ltL hn,jX,Mt,jR]
   rw[getD_map' Cp.e hn]
   simp only[Cp.e,jC,jD,C.L_l,jW,this,Mu,jS]
omit hb hl in
theorem LM (pk:Bool) (bts:List Bt) (sv:List (List C)) {k:Nat} (hk:k<bts.length) (hz:bts[k].name.size<=1000) (p:Int) (B:Nat) (hB:B<=20):∀(d:Nat) (L:List Cp),L.length+d=B->(∀c,c∈L->c.Sz 1048576)->
  ∃L':List Cp,lim (apn 13 bK.d3) [.i k,.i B,.i L.length,.l bs,.i p,.b false,.b pk,.l [],.l [],.l [],.l (bts.map Bt.e),.l sv,.l (L.map Cp.e)]=some (.brk 3 [.l bs,.i p,.b false,.b pk,.l [],.l [],.l [],.l (bts.map Bt.e),.l sv,.l (L'.map Cp.e)])/\L'.length<=20/\(∀c,c∈L'->c.Sz 1048576):=by
 intro d
 induction d with
 |zero=>
  intro L hn hL
  refine ⟨L,aR ?_,by omega,hL⟩
  have:¬((L.length:Int)<(B:Int)):=by omega
  simp only[apL,jC,jD,bK.d3,C.I_i,this,Mu,jS,C.L_l]
 |succ d ih=>
  intro L hn hL
  have mb:∀x:C,(lJ (rows [[x]])).size=1:=fun _=>rfl
  have b1:(Go.Ev.bs #[99]).size=1:=rfl
  have c0:(L.length:Int)<(B:Int):=by omega
  have c1:1+1<=4294967296:=by omega
  have c2:L.length+1<=4294967296:=by omega
  have w:w64 ((L.length:Int)+1)=(((L.length+1:Nat)):Int):=by rw[aN (by omega) (by omega)];rfl
  let c:Cp:=⟨Go.Ev.bs #[99]++lJ (rows [[.i (IntKind.wrap .u8 (w64 (97+(L.length:Int))))]]),Go.Ev.bs #[119,101,98],0,0,0,0,Go.Ev.bs #[],[],0,Go.Ev.bs #[],Go.Ev.bs #[],bts[k].name⟩
  have hc:c.Sz 1048576:=⟨by show (Go.Ev.bs #[99]++lJ (rows [[_]])).size<=_;rw[MK,b1,mb];decide,by show (Go.Ev.bs #[119,101,98]).size<=_;decide,by show (Go.Ev.bs #[]).size<=_;decide,by show (Go.Ev.bs #[]).size<=_;decide,by show (Go.Ev.bs #[]).size<=_;decide,by show bts[k].name.size<=_;omega,by show 0<=_;decide,fun x hx=>by simp[c] at hx⟩
  obtain ⟨L',q1,q2,q3⟩:=ih (L++[c]) (by simp;omega) (fun x hx=>by
   rcases MO.1 hx with hx|hx
   ·exact hL x hx
   ·rw[MH.1 hx];exact hc)
  refine ⟨L',?_,q2,q3⟩
  rw[←q1]
  apply aD
  simp only[apL,jC,jD,bK.d3,C.I_i,c0,Mt,jR,C.S_s,b1,mb,c1,C.L_l,jW,w,ltL hk,jX,jY,MP,MZ]
  rw[getD_map' Bt.e hk]
  simp only[rows,Mn,Mo,My,c2,Mt,jR,Bt.e,jC,af]
  rfl
theorem Ht {f:Fl} (hz:f.Sz 1000) (hs:f.svs.length=4) (hb1:1<=f.bts.length) {p:Int} (h0:0<=p) (h1:p<=1125899906842624-10000):
  ∃(g:Fl) (p':Int),bK (f.e++[.l bs,.i p])=some (spR bs g p')/\g.Sq/\p<=p'/\p'<=p+1000:=by
 have hF:=mD hz.up
 have hbl:=hz.1.1
 have hcl:=hz.2.2.1
 obtain ⟨k,hk,g1⟩:=ba hb hl h0 (show p<=1125899906842624 by omega) (n:=(f.bts.length:Int)) (by omega) (by omega)
 have hk':k<f.bts.length:=by omega
 have hbk:=(hz.1.2 _ (Mq hk')).up
 have hbk0:=hz.1.2 _ (Mq hk')
 have nb:((f.bts.length:Int)==0)=false:=by rw[Ns];omega
 simp only[Fl.e] at hF
 by_cases hc0:f.cps.length=0
 ·have g2:=KY (bs:=bs) (p:=p+1) (n:=(f.cps.length:Int)) (by omega) (by omega) (by omega)
  have nc:((f.cps.length:Int)==0)=true:=by rw[hc0];rfl
  refine ⟨⟨false,[],[⟨Go.Ev.bs #[],0⟩],[]⟩,p+1+1,?_,⟨⟨⟨by show 0<=_;decide,fun b hb=>by simp at hb⟩,⟨by show 1<=_;decide,fun s hs=>by rw[MH.1 hs];show (Go.Ev.bs #[]).size<=_;decide⟩,by show 0<=_;decide,fun b hb=>by simp at hb⟩,by show 0<=_;decide⟩,by omega,by omega⟩
  simp only[bK,bK.d5,Fl.e,jA,jB,apL,jC,jD,hF,call4,jI,C.L_l,jW,g1,g2,call3,nb,nc,ja,jR,jV]
  rfl
 obtain ⟨n,hn,g2⟩:=ba hb hl (p:=p+1) (n:=(f.cps.length:Int)) (by omega) (by omega) (by omega) (by omega)
 have hn':n<f.cps.length:=by omega
 have hcn:=(hz.2.2.2 _ (Mq hn')).up
 have nc:((f.cps.length:Int)==0)=false:=by rw[Ns];omega
 obtain ⟨q,hq,g3⟩:=ba hb hl (p:=p+1+1) (n:=16) (by omega) (by omega) (by omega) (by omega)
 simp only[bK,bK.d5,Fl.e,jA,jB,apL,jC,jD,hF,call4,jI,C.L_l,C.I_i,jW,g1,g2,call3,nb,nc,ja,jR,jS]
 refine KR ?_
 rw[g3]
 simp only[jI,jC,jD,C.I_i]
 have hqq:q=0∨q=1∨q=2∨q=3∨q=4∨q=5∨q=6∨q=7∨q=8∨q=9∨q=10∨q=11∨q=12∨q=13∨q=14∨q=15:=by omega
 rcases hqq with rfl|rfl|rfl|rfl|rfl|rfl|rfl|rfl|rfl|rfl|rfl|rfl|rfl|rfl|rfl|rfl
 ·simp only[show ((((0:Nat):Int))==0)=true from rfl,jR,jS]
  obtain ⟨t,ht,g4⟩:=ba hb hl (p:=p+1+1+1) (n:=2) (by omega) (by omega) (by omega) (by omega)
  have w20:w64 (20+(t:Int))=((20+t:Nat):Int):=by rw[aN (by omega) (by omega)];omega
  obtain ⟨w,gm,hw⟩:=F9 (Go.Ev.bs #[110]) (20+t) (by omega) rfl
  obtain ⟨x,hx,g5⟩:=ba hb hl (p:=p+1+1+1+1) (n:=4) (by omega) (by omega) (by omega) (by omega)
  obtain ⟨v,v1,v2⟩:=EY [Go.Ev.bs #[],Go.Ev.bs #[65],Go.Ev.bs #[122,122],w] (by intro s hs;simp only[Mw,List.not_mem_nil,or_false] at hs;rcases hs with rfl|rfl|rfl|rfl<;>first|assumption|decide) (x:=x) (by simp only[Mn,Mo];omega)
  simp only[MD,MC,sE] at v1
  have l1:((x:Nat):Int)<((4:Nat):Int):=by omega
  have st:(f.bts.map Bt.e).set k (aB ((f.bts.map Bt.e).getD k []) 0 [.s v])=(f.bts.set k {f.bts[k] with name:=v}).map Bt.e:=qf hk' rfl
  simp only[g4,g5,gm,w20,call3,ad,jI,jC,jD,C.I_i,jX,Mt,jR,rows,Mn,Mo,My,Nat.reduceAdd,jY,af,l1,v1,ltL hk',st]
  exact ⟨{f with bts:=f.bts.set k {f.bts[k] with name:=v}},p+1+1+1+1+1,rfl,Fk hz (b:= {f.bts[k] with name:=v}) ⟨MR v2 (by decide),hbk.2⟩ k,by omega,by omega⟩
 ·simp only[show ((((1:Nat):Int))==0)=false from rfl,show ((((1:Nat):Int))==1)=true from rfl,jR,jS]
  obtain ⟨x,hx,g4⟩:=ba hb hl (p:=p+1+1+1) (n:=2) (by omega) (by omega) (by omega) (by omega)
  obtain ⟨v,v1,v2⟩:=EY [Go.Ev.bs #[],Go.Ev.bs #[120,32,121]] (by intro s hs;simp only[Mw,List.not_mem_nil,or_false] at hs;rcases hs with rfl|rfl<;>first|assumption|decide) (x:=x) (by simp only[Mn,Mo];omega)
  simp only[MD,MC,sE] at v1
  have l1:((x:Nat):Int)<((2:Nat):Int):=by omega
  have st:(f.bts.map Bt.e).set k (aB ((f.bts.map Bt.e).getD k []) 1 [.s v])=(f.bts.set k {f.bts[k] with zone:=v}).map Bt.e:=qf hk' rfl
  simp only[g4,call3,ad,jI,jC,jD,C.I_i,jX,Mt,jR,rows,Mn,Mo,My,Nat.reduceAdd,jY,af,l1,v1,ltL hk',st]
  exact ⟨{f with bts:=f.bts.set k {f.bts[k] with zone:=v}},p+1+1+1+1,rfl,Fk hz (b:= {f.bts[k] with zone:=v}) ⟨hbk.1,MR v2 (by decide),hbk.2.2⟩ k,by omega,by omega⟩
 ·simp only[show ((((2:Nat):Int))==0)=false from rfl,show ((((2:Nat):Int))==1)=false from rfl,show ((((2:Nat):Int))==2)=true from rfl,jR,jS]
  obtain ⟨x,hx,g4⟩:=ba hb hl (p:=p+1+1+1) (n:=6) (by omega) (by omega) (by omega) (by omega)
  obtain ⟨v,v1,v2,v3⟩:=L7 [[Go.Ev.bs #[98],Go.Ev.bs #[97]],[Go.Ev.bs #[97],Go.Ev.bs #[97,61,98]],[Go.Ev.bs #[97,61,98],Go.Ev.bs #[97,61,99]],[Go.Ev.bs #[65]],[Go.Ev.bs #[97],Go.Ev.bs #[97,45,120],Go.Ev.bs #[97,61,98]],[Go.Ev.bs #[49],Go.Ev.bs #[50],Go.Ev.bs #[51],Go.Ev.bs #[52],Go.Ev.bs #[53],Go.Ev.bs #[54],Go.Ev.bs #[55],Go.Ev.bs #[56],Go.Ev.bs #[57],Go.Ev.bs #[97],Go.Ev.bs #[98]]] (by decide) (x:=x) (by simp only[Mn,Mo];omega)
  simp only[MD,MC,sE] at v1
  have l1:((x:Nat):Int)<((6:Nat):Int):=by omega
  have st:(f.bts.map Bt.e).set k (aB ((f.bts.map Bt.e).getD k []) 2 [.l (v.map sE)])=(f.bts.set k {f.bts[k] with marks:=v}).map Bt.e:=qf hk' rfl
  simp only[g4,call3,ad,jI,jC,jD,C.I_i,jX,Mt,jR,rows,Mn,Mo,My,Nat.reduceAdd,jY,af,l1,v1,ltL hk',st]
  exact ⟨{f with bts:=f.bts.set k {f.bts[k] with marks:=v}},p+1+1+1+1,rfl,Fk hz (b:= {f.bts[k] with marks:=v}) ⟨hbk.1,hbk.2.1,MR v2 (by decide),fun m hm=>MR (v3 m hm) (by decide)⟩ k,by omega,by omega⟩
 ·simp only[show ((((3:Nat):Int))==0)=false from rfl,show ((((3:Nat):Int))==1)=false from rfl,show ((((3:Nat):Int))==2)=false from rfl,show ((((3:Nat):Int))==3)=true from rfl,jR,jS]
  obtain ⟨x,hx,g4⟩:=ba hb hl (p:=p+1+1+1) (n:=4) (by omega) (by omega) (by omega) (by omega)
  obtain ⟨v,v1⟩:=Hb [-1,0,1000,1001] (x:=x) (by simp only[Mn,Mo];omega)
  simp only[MD,MC] at v1
  have l1:((x:Nat):Int)<((4:Nat):Int):=by omega
  have st:(f.bts.map Bt.e).set k (aB ((f.bts.map Bt.e).getD k []) 3 [.i v])=(f.bts.set k {f.bts[k] with room:=v}).map Bt.e:=qf hk' rfl
  simp only[g4,call3,ad,jI,jC,jD,C.I_i,jX,Mt,jR,rows,Mn,Mo,My,Nat.reduceAdd,jY,af,l1,v1,ltL hk',st]
  exact ⟨{f with bts:=f.bts.set k {f.bts[k] with room:=v}},p+1+1+1+1,rfl,Fk hz (b:= {f.bts[k] with room:=v}) hbk k,by omega,by omega⟩
 ·simp only[show ((((4:Nat):Int))==0)=false from rfl,show ((((4:Nat):Int))==1)=false from rfl,show ((((4:Nat):Int))==2)=false from rfl,show ((((4:Nat):Int))==3)=false from rfl,show ((((4:Nat):Int))==4)=true from rfl,jR,jS]
  have c1:f.bts.length+1<=4294967296:=by omega
  have hr:[((f.bts.map Bt.e).getD k []).getD 0 .nil,((f.bts.map Bt.e).getD k []).getD 1 .nil,((f.bts.map Bt.e).getD k []).getD 2 .nil,((f.bts.map Bt.e).getD k []).getD 3 .nil,((f.bts.map Bt.e).getD k []).getD 4 .nil,((f.bts.map Bt.e).getD k []).getD 5 .nil]=f.bts[k].e:=by rw[getD_map' Bt.e hk'];rfl
  simp only[call3,ad,jI,jC,jD,C.I_i,jX,Mt,jR,rows,Mn,Mo,My,Nat.reduceAdd,jY,af,ltL hk',c1,hr]
  refine ⟨{f with bts:=f.bts++[f.bts[k]]},p+1+1+1,by simp only[spN,MZ,MD,MC],⟨⟨⟨by show (f.bts++[f.bts[k]]).length<=_;rw[MP];simp only[Mn,Mo];omega,fun x hx=>?_⟩,hz.up.2⟩,hz.2.2.1⟩,by omega,by omega⟩
  rcases MO.1 hx with hx|hx
  ·exact hz.up.1.2 x hx
  ·rw[MH.1 hx];exact hbk
 ·simp only[show ((((5:Nat):Int))==0)=false from rfl,show ((((5:Nat):Int))==1)=false from rfl,show ((((5:Nat):Int))==2)=false from rfl,show ((((5:Nat):Int))==3)=false from rfl,show ((((5:Nat):Int))==4)=false from rfl,show ((((5:Nat):Int))==5)=true from rfl,jR,jS]
  obtain ⟨a,ha,g4⟩:=ba hb hl (p:=p+1+1+1) (n:=4) (by omega) (by omega) (by omega) (by omega)
  have ha':a<f.svs.length:=by omega
  have hsa:f.svs[a].name.size<=1048576:=hz.up.2.1.2 _ (Mq ha')
  obtain ⟨x,hx,g5⟩:=ba hb hl (p:=p+1+1+1+1) (n:=3) (by omega) (by omega) (by omega) (by omega)
  obtain ⟨v,v1⟩:=Hb [-1,60,61] (x:=x) (by simp only[Mn,Mo];omega)
  simp only[MD,MC] at v1
  have l1:((x:Nat):Int)<((3:Nat):Int):=by omega
  have st:(f.svs.map Sv.e).set a (aB ((f.svs.map Sv.e).getD a []) 1 [.i v])=(f.svs.set a {f.svs[a] with spare:=v}).map Sv.e:=qf ha' rfl
  simp only[g4,g5,call3,ad,jI,jC,jD,C.I_i,jX,Mt,jR,rows,Mn,Mo,My,Nat.reduceAdd,jY,af,l1,v1,ltL ha',st]
  exact ⟨{f with svs:=f.svs.set a {f.svs[a] with spare:=v}},p+1+1+1+1+1,rfl,Lp hz (b:= {f.svs[a] with spare:=v}) hsa a,by omega,by omega⟩
 ·simp only[show ((((6:Nat):Int))==0)=false from rfl,show ((((6:Nat):Int))==1)=false from rfl,show ((((6:Nat):Int))==2)=false from rfl,show ((((6:Nat):Int))==3)=false from rfl,show ((((6:Nat):Int))==4)=false from rfl,show ((((6:Nat):Int))==5)=false from rfl,show ((((6:Nat):Int))==6)=true from rfl,jR,jS]
  obtain ⟨x,hx,g4⟩:=ba hb hl (p:=p+1+1+1) (n:=3) (by omega) (by omega) (by omega) (by omega)
  obtain ⟨v,v1⟩:=Hb [-1,100,101] (x:=x) (by simp only[Mn,Mo];omega)
  simp only[MD,MC] at v1
  have l1:((x:Nat):Int)<((3:Nat):Int):=by omega
  have st:(f.cps.map Cp.e).set n (aB ((f.cps.map Cp.e).getD n []) 2 [.i v])=(f.cps.set n {f.cps[n] with rank:=v}).map Cp.e:=qf hn' rfl
  simp only[g4,call3,ad,jI,jC,jD,C.I_i,jX,Mt,jR,rows,Mn,Mo,My,Nat.reduceAdd,jY,af,l1,v1,ltL hn',st]
  exact ⟨{f with cps:=f.cps.set n {f.cps[n] with rank:=v}},p+1+1+1+1,rfl,wW hz (b:= {f.cps[n] with rank:=v}) hcn n,by omega,by omega⟩
 ·simp only[show ((((7:Nat):Int))==0)=false from rfl,show ((((7:Nat):Int))==1)=false from rfl,show ((((7:Nat):Int))==2)=false from rfl,show ((((7:Nat):Int))==3)=false from rfl,show ((((7:Nat):Int))==4)=false from rfl,show ((((7:Nat):Int))==5)=false from rfl,show ((((7:Nat):Int))==6)=false from rfl,show ((((7:Nat):Int))==7)=true from rfl,jR,jS]
  obtain ⟨x,hx,g4⟩:=ba hb hl (p:=p+1+1+1) (n:=3) (by omega) (by omega) (by omega) (by omega)
  obtain ⟨v,v1⟩:=Hb [-1,1000000,1000001] (x:=x) (by simp only[Mn,Mo];omega)
  simp only[MD,MC] at v1
  have l1:((x:Nat):Int)<((3:Nat):Int):=by omega
  have st:(f.cps.map Cp.e).set n (aB ((f.cps.map Cp.e).getD n []) 3 [.i v])=(f.cps.set n {f.cps[n] with born:=v}).map Cp.e:=qf hn' rfl
  simp only[g4,call3,ad,jI,jC,jD,C.I_i,jX,Mt,jR,rows,Mn,Mo,My,Nat.reduceAdd,jY,af,l1,v1,ltL hn',st]
  exact ⟨{f with cps:=f.cps.set n {f.cps[n] with born:=v}},p+1+1+1+1,rfl,wW hz (b:= {f.cps[n] with born:=v}) hcn n,by omega,by omega⟩
 ·simp only[show ((((8:Nat):Int))==0)=false from rfl,show ((((8:Nat):Int))==1)=false from rfl,show ((((8:Nat):Int))==2)=false from rfl,show ((((8:Nat):Int))==3)=false from rfl,show ((((8:Nat):Int))==4)=false from rfl,show ((((8:Nat):Int))==5)=false from rfl,show ((((8:Nat):Int))==6)=false from rfl,show ((((8:Nat):Int))==7)=false from rfl,show ((((8:Nat):Int))==8)=true from rfl,jR,jS]
  obtain ⟨x,hx,g4⟩:=ba hb hl (p:=p+1+1+1) (n:=3) (by omega) (by omega) (by omega) (by omega)
  obtain ⟨v,v1⟩:=Hb [-1,1000,1001] (x:=x) (by simp only[Mn,Mo];omega)
  simp only[MD,MC] at v1
  have l1:((x:Nat):Int)<((3:Nat):Int):=by omega
  have st:(f.cps.map Cp.e).set n (aB ((f.cps.map Cp.e).getD n []) 4 [.i v])=(f.cps.set n {f.cps[n] with room:=v}).map Cp.e:=qf hn' rfl
  simp only[g4,call3,ad,jI,jC,jD,C.I_i,jX,Mt,jR,rows,Mn,Mo,My,Nat.reduceAdd,jY,af,l1,v1,ltL hn',st]
  exact ⟨{f with cps:=f.cps.set n {f.cps[n] with room:=v}},p+1+1+1+1,rfl,wW hz (b:= {f.cps[n] with room:=v}) hcn n,by omega,by omega⟩
 ·simp only[show ((((9:Nat):Int))==0)=false from rfl,show ((((9:Nat):Int))==1)=false from rfl,show ((((9:Nat):Int))==2)=false from rfl,show ((((9:Nat):Int))==3)=false from rfl,show ((((9:Nat):Int))==4)=false from rfl,show ((((9:Nat):Int))==5)=false from rfl,show ((((9:Nat):Int))==6)=false from rfl,show ((((9:Nat):Int))==7)=false from rfl,show ((((9:Nat):Int))==8)=false from rfl,show ((((9:Nat):Int))==9)=true from rfl,jR,jS]
  obtain ⟨w,gm,hw⟩:=F9 (Go.Ev.bs #[97]) 201 (by omega) rfl
  have gm':fc [.s (Go.Ev.bs #[97]),.i 201]=some [.s w]:=gm
  obtain ⟨x,hx,g4⟩:=ba hb hl (p:=p+1+1+1) (n:=4) (by omega) (by omega) (by omega) (by omega)
  obtain ⟨v,v1,v2⟩:=EY [Go.Ev.bs #[97,32,98],Go.Ev.bs #[33],w,Go.Ev.bs #[120]] (by intro s hs;simp only[Mw,List.not_mem_nil,or_false] at hs;rcases hs with rfl|rfl|rfl|rfl<;>first|assumption|decide) (x:=x) (by simp only[Mn,Mo];omega)
  simp only[MD,MC,sE] at v1
  have l1:((x:Nat):Int)<((4:Nat):Int):=by omega
  have st:(f.cps.map Cp.e).set n (aB ((f.cps.map Cp.e).getD n []) 6 [.s v])=(f.cps.set n {f.cps[n] with sel:=v}).map Cp.e:=qf hn' rfl
  simp only[g4,gm',call3,ad,jI,jC,jD,C.I_i,jX,Mt,jR,rows,Mn,Mo,My,Nat.reduceAdd,jY,af,l1,v1,ltL hn',st]
  exact ⟨{f with cps:=f.cps.set n {f.cps[n] with sel:=v}},p+1+1+1+1,rfl,wW hz (b:= {f.cps[n] with sel:=v}) ⟨hcn.1,hcn.2.1,MR v2 (by decide),hcn.2.2.2.1,hcn.2.2.2.2.1,hcn.2.2.2.2.2.1,hcn.2.2.2.2.2.2⟩ n,by omega,by omega⟩
 ·simp only[show ((((10:Nat):Int))==0)=false from rfl,show ((((10:Nat):Int))==1)=false from rfl,show ((((10:Nat):Int))==2)=false from rfl,show ((((10:Nat):Int))==3)=false from rfl,show ((((10:Nat):Int))==4)=false from rfl,show ((((10:Nat):Int))==5)=false from rfl,show ((((10:Nat):Int))==6)=false from rfl,show ((((10:Nat):Int))==7)=false from rfl,show ((((10:Nat):Int))==8)=false from rfl,show ((((10:Nat):Int))==9)=false from rfl,show ((((10:Nat):Int))==10)=true from rfl,jR,jS]
  obtain ⟨x,hx,g4⟩:=ba hb hl (p:=p+1+1+1) (n:=2) (by omega) (by omega) (by omega) (by omega)
  have w5:w64 (5+(x:Int))=((5+x:Nat):Int):=by rw[aN (by omega) (by omega)];omega
  obtain ⟨l',p',q1,q2,q3,q4,q5⟩:=LH hb hl f.pack (f.bts.map Bt.e) (f.svs.map Sv.e) n (5+x) (by omega) 20 f.cps (p+1+1+1+1) hn' (by omega) (by omega) hz.up.2.2.2 (by omega) (by omega)
  simp only[g4,call3,ad,jI,jC,jD,C.I_i,jX,Mt,jR,rows,Mn,Mo,My,Nat.reduceAdd,jY,af,w5,q1,aq,bK.d2,apL,C.L_l]
  exact ⟨{f with cps:=l'},p',rfl,⟨⟨hz.up.1,hz.up.2.1,by show l'.length<=_;omega,q3⟩,by show l'.length<=_;omega⟩,by omega,by omega⟩
 ·simp only[show ((((11:Nat):Int))==0)=false from rfl,show ((((11:Nat):Int))==1)=false from rfl,show ((((11:Nat):Int))==2)=false from rfl,show ((((11:Nat):Int))==3)=false from rfl,show ((((11:Nat):Int))==4)=false from rfl,show ((((11:Nat):Int))==5)=false from rfl,show ((((11:Nat):Int))==6)=false from rfl,show ((((11:Nat):Int))==7)=false from rfl,show ((((11:Nat):Int))==8)=false from rfl,show ((((11:Nat):Int))==9)=false from rfl,show ((((11:Nat):Int))==10)=false from rfl,show ((((11:Nat):Int))==11)=true from rfl,jR,jS]
  obtain ⟨x,hx,g4⟩:=ba hb hl (p:=p+1+1+1) (n:=2) (by omega) (by omega) (by omega) (by omega)
  obtain ⟨v,v1⟩:=Hb [-1,3] (x:=x) (by simp only[Mn,Mo];omega)
  simp only[MD,MC] at v1
  have l1:((x:Nat):Int)<((2:Nat):Int):=by omega
  have st:(f.cps.map Cp.e).set n (aB ((f.cps.map Cp.e).getD n []) 8 [.i v])=(f.cps.set n {f.cps[n] with apart:=v}).map Cp.e:=qf hn' rfl
  simp only[g4,call3,ad,jI,jC,jD,C.I_i,jX,Mt,jR,rows,Mn,Mo,My,Nat.reduceAdd,jY,af,l1,v1,ltL hn',st]
  exact ⟨{f with cps:=f.cps.set n {f.cps[n] with apart:=v}},p+1+1+1+1,rfl,wW hz (b:= {f.cps[n] with apart:=v}) hcn n,by omega,by omega⟩
 ·simp only[show ((((12:Nat):Int))==0)=false from rfl,show ((((12:Nat):Int))==1)=false from rfl,show ((((12:Nat):Int))==2)=false from rfl,show ((((12:Nat):Int))==3)=false from rfl,show ((((12:Nat):Int))==4)=false from rfl,show ((((12:Nat):Int))==5)=false from rfl,show ((((12:Nat):Int))==6)=false from rfl,show ((((12:Nat):Int))==7)=false from rfl,show ((((12:Nat):Int))==8)=false from rfl,show ((((12:Nat):Int))==9)=false from rfl,show ((((12:Nat):Int))==10)=false from rfl,show ((((12:Nat):Int))==11)=false from rfl,show ((((12:Nat):Int))==12)=true from rfl,jR,jS]
  obtain ⟨x,hx,g4⟩:=ba hb hl (p:=p+1+1+1) (n:=3) (by omega) (by omega) (by omega) (by omega)
  obtain ⟨v,v1,v2⟩:=EY [Go.Ev.bs #[103,111,110,101],Go.Ev.bs #[98,48],Go.Ev.bs #[98,49]] (by intro s hs;simp only[Mw,List.not_mem_nil,or_false] at hs;rcases hs with rfl|rfl|rfl<;>first|assumption|decide) (x:=x) (by simp only[Mn,Mo];omega)
  simp only[MD,MC,sE] at v1
  have l1:((x:Nat):Int)<((3:Nat):Int):=by omega
  have st:(f.cps.map Cp.e).set n (aB ((f.cps.map Cp.e).getD n []) 11 [.s v])=(f.cps.set n {f.cps[n] with at_:=v}).map Cp.e:=qf hn' rfl
  simp only[g4,call3,ad,jI,jC,jD,C.I_i,jX,Mt,jR,rows,Mn,Mo,My,Nat.reduceAdd,jY,af,l1,v1,ltL hn',st]
  exact ⟨{f with cps:=f.cps.set n {f.cps[n] with at_:=v}},p+1+1+1+1,rfl,wW hz (b:= {f.cps[n] with at_:=v}) ⟨hcn.1,hcn.2.1,hcn.2.2.1,hcn.2.2.2.1,hcn.2.2.2.2.1,MR v2 (by decide),hcn.2.2.2.2.2.2⟩ n,by omega,by omega⟩
 ·simp only[show ((((13:Nat):Int))==0)=false from rfl,show ((((13:Nat):Int))==1)=false from rfl,show ((((13:Nat):Int))==2)=false from rfl,show ((((13:Nat):Int))==3)=false from rfl,show ((((13:Nat):Int))==4)=false from rfl,show ((((13:Nat):Int))==5)=false from rfl,show ((((13:Nat):Int))==6)=false from rfl,show ((((13:Nat):Int))==7)=false from rfl,show ((((13:Nat):Int))==8)=false from rfl,show ((((13:Nat):Int))==9)=false from rfl,show ((((13:Nat):Int))==10)=false from rfl,show ((((13:Nat):Int))==11)=false from rfl,show ((((13:Nat):Int))==12)=false from rfl,show ((((13:Nat):Int))==13)=true from rfl,jR,jS]
  obtain ⟨x,hx,g4⟩:=ba hb hl (p:=p+1+1+1) (n:=2) (by omega) (by omega) (by omega) (by omega)
  obtain ⟨v,v1,v2⟩:=EY [Go.Ev.bs #[110,111,110,101],Go.Ev.bs #[]] (by intro s hs;simp only[Mw,List.not_mem_nil,or_false] at hs;rcases hs with rfl|rfl<;>first|assumption|decide) (x:=x) (by simp only[Mn,Mo];omega)
  simp only[MD,MC,sE] at v1
  have l1:((x:Nat):Int)<((2:Nat):Int):=by omega
  have st:(f.cps.map Cp.e).set n (aB ((f.cps.map Cp.e).getD n []) 1 [.s v])=(f.cps.set n {f.cps[n] with svc:=v}).map Cp.e:=qf hn' rfl
  simp only[g4,call3,ad,jI,jC,jD,C.I_i,jX,Mt,jR,rows,Mn,Mo,My,Nat.reduceAdd,jY,af,l1,v1,ltL hn',st]
  exact ⟨{f with cps:=f.cps.set n {f.cps[n] with svc:=v}},p+1+1+1+1,rfl,wW hz (b:= {f.cps[n] with svc:=v}) ⟨hcn.1,MR v2 (by decide),hcn.2.2.1,hcn.2.2.2.1,hcn.2.2.2.2.1,hcn.2.2.2.2.2.1,hcn.2.2.2.2.2.2⟩ n,by omega,by omega⟩
 ·simp only[show ((((14:Nat):Int))==0)=false from rfl,show ((((14:Nat):Int))==1)=false from rfl,show ((((14:Nat):Int))==2)=false from rfl,show ((((14:Nat):Int))==3)=false from rfl,show ((((14:Nat):Int))==4)=false from rfl,show ((((14:Nat):Int))==5)=false from rfl,show ((((14:Nat):Int))==6)=false from rfl,show ((((14:Nat):Int))==7)=false from rfl,show ((((14:Nat):Int))==8)=false from rfl,show ((((14:Nat):Int))==9)=false from rfl,show ((((14:Nat):Int))==10)=false from rfl,show ((((14:Nat):Int))==11)=false from rfl,show ((((14:Nat):Int))==12)=false from rfl,show ((((14:Nat):Int))==13)=false from rfl,show ((((14:Nat):Int))==14)=true from rfl,jR,jS]
  obtain ⟨x,hx,g4⟩:=ba hb hl (p:=p+1+1+1) (n:=2) (by omega) (by omega) (by omega) (by omega)
  have w5:w64 (10+(x:Int))=((10+x:Nat):Int):=by rw[aN (by omega) (by omega)];omega
  obtain ⟨l',q1,q2,q3⟩:=LM (bs:=bs) f.pack f.bts (f.svs.map Sv.e) hk' hbk0.1 (p+1+1+1+1) (10+x) (by omega) (10+x) [] (by simp) (fun c hc=>by simp at hc)
  simp only[MC,Mo,Mr] at q1
  simp only[g4,call3,ad,jI,jC,jD,C.I_i,jX,Mt,jR,rows,Mn,Mo,My,Nat.reduceAdd,jY,af,w5,q1,aq,bK.d2,apL,C.L_l]
  exact ⟨{f with cps:=l'},_,rfl,⟨⟨hz.up.1,hz.up.2.1,by show l'.length<=_;omega,q3⟩,by show l'.length<=_;omega⟩,by omega,by omega⟩
 ·simp only[show ((((15:Nat):Int))==0)=false from rfl,show ((((15:Nat):Int))==1)=false from rfl,show ((((15:Nat):Int))==2)=false from rfl,show ((((15:Nat):Int))==3)=false from rfl,show ((((15:Nat):Int))==4)=false from rfl,show ((((15:Nat):Int))==5)=false from rfl,show ((((15:Nat):Int))==6)=false from rfl,show ((((15:Nat):Int))==7)=false from rfl,show ((((15:Nat):Int))==8)=false from rfl,show ((((15:Nat):Int))==9)=false from rfl,show ((((15:Nat):Int))==10)=false from rfl,show ((((15:Nat):Int))==11)=false from rfl,show ((((15:Nat):Int))==12)=false from rfl,show ((((15:Nat):Int))==13)=false from rfl,show ((((15:Nat):Int))==14)=false from rfl,jR,jS]
  obtain ⟨x,hx,g4⟩:=ba hb hl (p:=p+1+1+1) (n:=2) (by omega) (by omega) (by omega) (by omega)
  obtain ⟨v,v1,v2⟩:=EY [Go.Ev.bs #[65],Go.Ev.bs #[119,101,98]] (by intro s hs;simp only[Mw,List.not_mem_nil,or_false] at hs;rcases hs with rfl|rfl<;>first|assumption|decide) (x:=x) (by simp only[Mn,Mo];omega)
  simp only[MD,MC,sE] at v1
  have l1:((x:Nat):Int)<((2:Nat):Int):=by omega
  obtain ⟨y,hy,g5⟩:=ba hb hl (p:=p+1+1+1+1) (n:=2) (by omega) (by omega) (by omega) (by omega)
  obtain ⟨u,u1,u2⟩:=EY [Go.Ev.bs #[120,32,121],Go.Ev.bs #[98,48]] (by intro s hs;simp only[Mw,List.not_mem_nil,or_false] at hs;rcases hs with rfl|rfl<;>first|assumption|decide) (x:=y) (by simp only[Mn,Mo];omega)
  simp only[MD,MC,sE] at u1
  have l2:((y:Nat):Int)<((2:Nat):Int):=by omega
  have st:(f.cps.map Cp.e).set n (aB ((f.cps.map Cp.e).getD n []) 9 [.s v])=(f.cps.set n {f.cps[n] with near:=v}).map Cp.e:=qf hn' rfl
  have hn2:n<(f.cps.set n {f.cps[n] with near:=v}).length:=by rw[MI];exact hn'
  have st2:((f.cps.set n {f.cps[n] with near:=v}).map Cp.e).set n (aB (((f.cps.set n {f.cps[n] with near:=v}).map Cp.e).getD n []) 10 [.s u])=(f.cps.set n {f.cps[n] with near:=v,fixed:=u}).map Cp.e:=by
   rw[qf (b:= {f.cps[n] with near:=v,fixed:=u}) hn2 (by rw[List.getElem_set_self];rfl),List.set_set]
  simp only[g4,g5,call3,ad,jI,jC,jD,C.I_i,jX,Mt,jR,rows,Mn,Mo,My,Nat.reduceAdd,jY,af,l1,l2,v1,u1,ltL hn',st,jW,MI,st2]
  exact ⟨{f with cps:=f.cps.set n {f.cps[n] with near:=v,fixed:=u}},p+1+1+1+1+1,rfl,wW hz (b:= {f.cps[n] with near:=v,fixed:=u}) ⟨hcn.1,hcn.2.1,hcn.2.2.1,MR v2 (by decide),MR u2 (by decide),hcn.2.2.2.2.2.1,hcn.2.2.2.2.2.2⟩ n,by omega,by omega⟩
end
end Go.Ev
namespace Go.Ev
section
variable {bs:List (List C)} (hb:BY bs) (hl:bs.length<=2000)
include hb hl
end
theorem BZ {A:List (List C)} (hA:BY A):∃bs:List (List C),kg [.l A]=some [.l bs,.i 0]/\BY bs/\bs.length<=2000:=by
 simp only[kg,kg.d1,apL,jC,C.L_l]
 by_cases h:(A.length:Int)>2000
 ·have h2:(2000:Int)<=(A.length:Int):=by omega
  refine ⟨(A.take 2000).drop 0,?_,?_,?_⟩
  ·simp only[h,h2,Mt,jR,jV]
  ·exact fun r hr=>hA r (List.mem_of_mem_take (List.mem_of_mem_drop hr))
  ·rw[Nb,ME];omega
 ·refine ⟨A,?_,hA,by omega⟩
  simp only[h,Mu,jS,jV]
end Go.Ev
set_option maxHeartbeats 1000000
namespace Go.Ev
theorem Ju {f:Fl} (cn:Str) (hlc:f.cps.length<=1048576) (Z:List C) (hZ:Z=[.s (bs #[]),.s (bs #[]),.i 0,.i 0,.i 0,.i 0,.s (bs #[]),.i 0,.s (bs #[]),.s (bs #[]),.s (bs #[]),.l []]):∀d i,i+d=f.cps.length->
  (ew (fun x:Cp=>sEq x.name cn) (f.cps.drop i) i<0/\lim (apn 18 ez.d1) ([.s cn,.i (i:Nat)]++f.e++Z)=some (.brk 0 Z))∨
  ∃k,∃hk:k<f.cps.length,ew (fun x:Cp=>sEq x.name cn) (f.cps.drop i) i=(k:Nat)/\lim (apn 18 ez.d1) ([.s cn,.i (i:Nat)]++f.e++Z)=some (.ret (f.cps[k].e++[.b true])):=by
 intro d
 subst hZ
 induction d with
 |zero=>
  intro i hi
  left
  have e:f.cps.drop i=[]:=List.drop_eq_nil_of_le (by omega)
  refine ⟨by rw[e];simp[ew],aR ?_⟩
  have:¬((i:Int)<(f.cps.length:Int)):=by omega
  simp only[Fl.e,jA,jB,apL,jC,jD,ez.d1,C.I_i,C.L_l,jW,this,Mu,jS]
 |succ d ih=>
  intro i hi
  have hlt:i<f.cps.length:=by omega
  have hd:f.cps.drop i=f.cps[i]::f.cps.drop (i+1):=MU hlt
  have stp:apn 18 ez.d1 ([.s cn,.i (i:Nat)]++f.e++[.s (bs #[]),.s (bs #[]),.i 0,.i 0,.i 0,.i 0,.s (bs #[]),.i 0,.s (bs #[]),.s (bs #[]),.s (bs #[]),.l []])=bif sEq f.cps[i].name cn then some (.ret (f.cps[i].e++[.b true])) else some (.again ([.s cn,.i (i+1:Nat)]++f.e++[.s (bs #[]),.s (bs #[]),.i 0,.i 0,.i 0,.i 0,.s (bs #[]),.i 0,.s (bs #[]),.s (bs #[]),.s (bs #[]),.l []])):=by
   have hl2:f.cps.length<big:=by simp only[big];omega
   simp only[Fl.e,jA,jB,apL,jC,jD,ez.d1,C.I_i,C.L_l,C.S_s,jW,ltL hlt,jX,Mt,jR,jY,w1 hlt hl2]
   rw[getD_map' Cp.e hlt]
   simp only[Cp.e,jC,jD,C.S_s,sEq,jA,jB]
  rw[hd]
  cases hq:sEq f.cps[i].name cn with
  |true=>
   right
   refine ⟨i,hlt,by simp[ew,hq],js ?_⟩
   rw[stp,hq];rfl
  |false=>
   have e:ew (fun x:Cp=>sEq x.name cn) (f.cps[i]::f.cps.drop (i+1)) i=ew (fun x:Cp=>sEq x.name cn) (f.cps.drop (i+1)) (i+1):=by simp[ew,hq]
   rw[e,aD (by rw[stp,hq];rfl)]
   exact ih (i+1) (by omega)
theorem GJ {f:Fl} (cn:Str) (hlc:f.cps.length<=1048576):∃(c:Cp) (ok:Bool),ez (f.e++[.s cn])=some (c.e++[.b ok])/\((ok=false/\cIx f cn<0)∨(ok=true/\∃k,∃hk:k<f.cps.length,cIx f cn=(k:Nat)/\c=f.cps[k])):=by
 have:=Ju (f:=f) cn hlc _ rfl f.cps.length 0 (by omega)
 rw[Nb] at this
 simp only[Fl.e,jA,jB,Mr] at this
 rcases this with ⟨h1,h2⟩|⟨k,hk,h1,h2⟩
 ·refine ⟨⟨bs #[],bs #[],0,0,0,0,bs #[],[],0,bs #[],bs #[],bs #[]⟩,false,?_,.inl ⟨rfl,h1⟩⟩
  simp only[ez,ez.d3,Fl.e,jA,jB,apL,jC,jD,af,h2,aq,ez.d2,jV]
  rfl
 ·refine ⟨f.cps[k],true,?_,.inr ⟨rfl,k,hk,h1,rfl⟩⟩
  simp only[ez,ez.d3,Fl.e,jA,jB,apL,jC,jD,af,h2,re,jV]
end Go.Ev
namespace Go.Ev
section
variable {f:Fl} (h:VF f) {i:Nat} (hi:i<f.cps.length) (b:Bt)
include h hi
end
end Go.Ev
namespace Go.Ev
section
variable {bs:List (List C)} (hb:BY bs) (hl:bs.length<=2000)
include hb hl
theorem Gd (f:Fl) (hz:f.cps.length<=1048576) {p:Int} (h0:0<=p) (h1:p<=1125899906842624-100):
  ∃(s:Str) (p':Int),lB (f.e++[.l bs,.i p])=some [.s s,.l bs,.i p']/\(s=Go.Ev.bs #[]∨s=Go.Ev.bs #[103,111,110,101]∨∃k,∃hk:k<f.cps.length,s=f.cps[k].name)/\p<=p'/\p'<=p+10:=by
 have tb:∀x:Nat,x<2->∃v:Str,((rows [[C.s (Go.Ev.bs #[])],[C.s (Go.Ev.bs #[103,111,110,101])]]).getD x []).getD 0 .nil=.s v/\(v=Go.Ev.bs #[]∨v=Go.Ev.bs #[103,111,110,101]):=fun x hx=>by
  rcases x with _|_|x
  ·exact ⟨_,rfl,.inl rfl⟩
  ·exact ⟨_,rfl,.inr rfl⟩
  ·omega
 have t2:(rows [[C.s (Go.Ev.bs #[])],[C.s (Go.Ev.bs #[103,111,110,101])]]).length=2:=rfl
 simp only[lB,lB.d1,Fl.e,jA,jB,apL,jC,jD,C.L_l,jW]
 by_cases hc:f.cps.length=0
 ·have nc:((f.cps.length:Int)==0)=true:=by rw[hc];rfl
  obtain ⟨x,hx,g1⟩:=ba hb hl h0 (show p<=1125899906842624 by omega) (n:=2) (by omega) (by omega)
  obtain ⟨v,v1,v2⟩:=tb x (by omega)
  have l1:(x:Int)<((2:Nat):Int):=by omega
  refine ⟨v,p+1,?_,v2.elim .inl fun h=>.inr (.inl h),by omega,by omega⟩
  simp only[nc,jZ,jS,g1,call3,jI,jC,jD,C.I_i,jX,Mt,jR,t2,l1,jY,v1,jV]
 ·have nc:((f.cps.length:Int)==0)=false:=by rw[Ns];omega
  obtain ⟨y,hy,g1⟩:=ba hb hl h0 (show p<=1125899906842624 by omega) (n:=16) (by omega) (by omega)
  simp only[nc,ja,jR,g1,call3,jI,jC,jD,C.I_i]
  cases hq:((y:Int)==0) with
  |true=>
   obtain ⟨x,hx,g2⟩:=ba hb hl (p:=p+1) (n:=2) (by omega) (by omega) (by omega) (by omega)
   obtain ⟨v,v1,v2⟩:=tb x (by omega)
   have l1:(x:Int)<((2:Nat):Int):=by omega
   refine ⟨v,p+1+1,?_,v2.elim .inl fun h=>.inr (.inl h),by omega,by omega⟩
   simp only[jR,g2,jI,jC,jD,C.I_i,jX,Mt,t2,l1,jY,v1,jV]
  |false=>
   obtain ⟨x,hx,g2⟩:=ba hb hl (p:=p+1) (n:=(f.cps.length:Int)) (by omega) (by omega) (by omega) (by omega)
   have hx':x<f.cps.length:=by omega
   refine ⟨f.cps[x].name,p+1+1,?_,.inr (.inr ⟨x,hx',rfl⟩),by omega,by omega⟩
   simp only[jS,g2,jI,jC,jD,C.I_i,jX,Mt,jR,ltL hx',jY]
   rw[getD_map' Cp.e hx']
   rfl
theorem DN (f:Fl) (hz:f.bts.length<=1048576) {p:Int} (h0:0<=p) (h1:p<=1125899906842624-100):
  ∃(s:Str) (p':Int),j4 (f.e++[.l bs,.i p])=some [.s s,.l bs,.i p']/\(s=Go.Ev.bs #[]∨s=Go.Ev.bs #[103,111,110,101]∨∃k,∃hk:k<f.bts.length,s=f.bts[k].name)/\p<=p'/\p'<=p+10:=by
 have tb:∀x:Nat,x<2->∃v:Str,((rows [[C.s (Go.Ev.bs #[])],[C.s (Go.Ev.bs #[103,111,110,101])]]).getD x []).getD 0 .nil=.s v/\(v=Go.Ev.bs #[]∨v=Go.Ev.bs #[103,111,110,101]):=fun x hx=>by
  rcases x with _|_|x
  ·exact ⟨_,rfl,.inl rfl⟩
  ·exact ⟨_,rfl,.inr rfl⟩
  ·omega
 have t2:(rows [[C.s (Go.Ev.bs #[])],[C.s (Go.Ev.bs #[103,111,110,101])]]).length=2:=rfl
 simp only[j4,j4.d1,Fl.e,jA,jB,apL,jC,jD,C.L_l,jW]
 by_cases hc:f.bts.length=0
 ·have nc:((f.bts.length:Int)==0)=true:=by rw[hc];rfl
  obtain ⟨x,hx,g1⟩:=ba hb hl h0 (show p<=1125899906842624 by omega) (n:=2) (by omega) (by omega)
  obtain ⟨v,v1,v2⟩:=tb x (by omega)
  have l1:(x:Int)<((2:Nat):Int):=by omega
  refine ⟨v,p+1,?_,v2.elim .inl fun h=>.inr (.inl h),by omega,by omega⟩
  simp only[nc,jZ,jS,g1,call3,jI,jC,jD,C.I_i,jX,Mt,jR,t2,l1,jY,v1,jV]
 ·have nc:((f.bts.length:Int)==0)=false:=by rw[Ns];omega
  obtain ⟨y,hy,g1⟩:=ba hb hl h0 (show p<=1125899906842624 by omega) (n:=16) (by omega) (by omega)
  simp only[nc,ja,jR,g1,call3,jI,jC,jD,C.I_i]
  cases hq:((y:Int)==0) with
  |true=>
   obtain ⟨x,hx,g2⟩:=ba hb hl (p:=p+1) (n:=2) (by omega) (by omega) (by omega) (by omega)
   obtain ⟨v,v1,v2⟩:=tb x (by omega)
   have l1:(x:Int)<((2:Nat):Int):=by omega
   refine ⟨v,p+1+1,?_,v2.elim .inl fun h=>.inr (.inl h),by omega,by omega⟩
   simp only[jR,g2,jI,jC,jD,C.I_i,jX,Mt,t2,l1,jY,v1,jV]
  |false=>
   obtain ⟨x,hx,g2⟩:=ba hb hl (p:=p+1) (n:=(f.bts.length:Int)) (by omega) (by omega) (by omega) (by omega)
   have hx':x<f.bts.length:=by omega
   refine ⟨f.bts[x].name,p+1+1,?_,.inr (.inr ⟨x,hx',rfl⟩),by omega,by omega⟩
   simp only[jS,g2,jI,jC,jD,C.I_i,jX,Mt,jR,ltL hx',jY]
   rw[getD_map' Bt.e hx']
   rfl
end
end Go.Ev
namespace Go.Ev
theorem EX (L:List Str) (hl:L.length<=1048576):eS [.l (L.map sE),.l (L.map sE)]=some [.b true]:=by
 have hb:L.length<big:=by simp only[big];omega
 have h:=bQ (body:=apn 3 eS.d1) (S:=fun i=>[.l (L.map sE),.l (L.map sE),.i (i:Nat)]) (n:=L.length) (b:=0) (ys:=[])
  (fun i hi=>by
   simp only[apL,jC,jD,eS.d1,C.I_i,C.L_l,jW,ltL hi,jX,Mt,jR,jY,w1 hi hb]
   rw[getD_map' sE hi]
   simp only[sE,jC,C.S_s,beq_self_eq_true,jZ,jS])
  (by simp[eS.d1]) L.length 0 rfl
 have e:((L.length:Int) !=(L.length:Int))=false:=by simp
 simp only[Mr] at h
 simp only[eS,eS.d3,apL,jC,jD,C.L_l,jW,e,jS,h,aq,eS.d2,jV]
theorem I8 (L:List Str) (s:Str) (hl:L.length<=1048576):jb [.l (L.map sE),.s s]=some [.b (L.any fun x=>sEq x s)]:=by
 have hb:L.length<big:=by simp only[big];omega
 have key:∀d i,i+d=L.length->ah 0 (lim (apn 3 jb.d1) [.l (L.map sE),.s s,.i (i:Nat)]) (fun xs=>jb.d2)=some (.ret [.b ((L.drop i).any fun x=>sEq x s)]):=by
  intro d
  induction d with
  |zero=>
   intro i hi
   have:¬((i:Int)<(L.length:Int)):=by omega
   rw[aR (i:=0) (ys:=[]) (by simp only[apL,jC,jD,jb.d1,C.I_i,C.L_l,jW,this,Mu,jS]),aq,List.drop_eq_nil_of_le (by omega)]
   rfl
  |succ d ih=>
   intro i hi
   have hlt:i<L.length:=by omega
   have stp:apn 3 jb.d1 [.l (L.map sE),.s s,.i (i:Nat)]=bif sEq L[i] s then some (.ret [.b true]) else some (.again [.l (L.map sE),.s s,.i (i+1:Nat)]):=by
    simp only[apL,jC,jD,jb.d1,C.I_i,C.L_l,C.S_s,jW,ltL hlt,jX,Mt,jR,jY,w1 hlt hb]
    rw[getD_map' sE hlt]
    simp only[sE,jC,C.S_s,sEq]
   rw[MU hlt,List.any_cons]
   cases hq:sEq L[i] s with
   |true=>rw[js (by rw[stp,hq];rfl),re];rfl
   |false=>rw[aD (by rw[stp,hq];rfl),ih (i+1) (by omega),Nj]
 have:=key L.length 0 (by omega)
 simp only[Mr,Nb] at this
 simp only[jb,jb.d3,apL,jC,jD,this,jV]
end Go.Ev
namespace Go.Ev
end Go.Ev
namespace Go.Ev
end Go.Ev
namespace Go.Ev
section
variable {g:Fl} (h:VF g) {i:Nat} (hi:i<g.cps.length) {b:Bt} (hb:b∈g.bts) (hw:sEq g.cps[i].at_ (mkS [])=true) (hfit:eL g g.cps[i] b false=0) {j:Nat} (hj:j<g.cps.length) (hne:i≠j) {b':Bt} (hb':b'∈g.bts) (ha:sEq g.cps[j].at_ b'.name=true) (h0:eL g g.cps[j] b' true=0)
include h hi hb hw hfit hj hne hb' ha h0
end
end Go.Ev
namespace Go.Ev
structure PlI (f0 g:Fl) (n:Nat):Prop where
 b:g.bts=f0.bts
 s:g.svs=f0.svs
 p:g.pack=f0.pack
 l:g.cps.length=f0.cps.length
 c:∀i (h1:i<g.cps.length) (h2:i<f0.cps.length),g.cps[i].name=f0.cps[i].name/\(iI f0.cps[i]=false->g.cps[i]=f0.cps[i])
 n:(waits g).length+n=(waits f0).length
 r:I7 f0=[]->∀i (h1:i<g.cps.length),iI g.cps[i]=false->sEq g.cps[i].near g.cps[i].svc=false->∀b',b'∈g.bts->sEq g.cps[i].at_ b'.name=true->eL g g.cps[i] b' true=0
end Go.Ev
namespace Go.Ev
theorem IA {f:Fl} (hz':f.Sz 1048576):cx f.e=some (H8 (BO f)):=by
 have h3:=fq hz'
 simp only[fe] at h3
 simp only[cx,cx.d3,fe,apL,jC,jD,h3,ad,jI,C.B_b,BO]
 cases hv:bl f with
 |false=>rfl
 |true=>
  have a:=mD hz'
  have b:=tO hz' hv
  have c:=Db (Ky hv) hz'
  rw[show (queue f).findSome? (DP f)=rV f from rfl,FW] at b
  simp only[fe] at a b
  simp only[spS,spT,MC] at c
  simp only[jZ,jS,jR,a,b,call4,jI,jC,jD,C.B_b,C.L_l,show af=([]:List (List C)) from rfl,c,aq,apL,cx.d2,jV,H8]
end Go.Ev
namespace Go.Ev
section
variable {f g:Fl} {n:Nat} (hz:f.Sz 1048576) (gz:g.Sz 1048576) (hg:bl g=true) (P:PlI f g n) (hn:rV g=none)
include hz gz hg P hn
end
end Go.Ev
namespace Go.Ev
section
variable {f:Fl} (hz:f.Sz 1048576)
include hz
end
end Go.Ev
namespace Go.Ev
structure Mb (f:Fl) (t:Cp) (j:Nat) (r:List Cp):Prop where
 hj:j<=f.cps.length
 lo:∀m (hm:m<f.cps.length),m<j->sLt f.cps[m].name t.name=true
 hi:∀hj:j<f.cps.length,sLt f.cps[j].name t.name=false
 hr:(r=f.cps.drop (j+1)/\∀hj:j<f.cps.length,sEq f.cps[j].name t.name=true)∨(r=f.cps.drop j/\∀hj:j<f.cps.length,sEq f.cps[j].name t.name=false)
section
variable {f:Fl} (h:VF f) {t:Cp} {j:Nat} {r:List Cp} (I:Mb f t j r)
include h I
end
end Go.Ev
namespace Go.Ev
end Go.Ev
namespace Go.Ev
end Go.Ev
namespace Go.Ev
end Go.Ev
namespace Go.Ev
end Go.Ev
namespace Go.Ev
def Cp.q (c:Cp) (bs:List (List C)) (p:Int):List C:=[.s c.name,.s c.svc,.i c.rank,.i c.born,.i c.room,.i c.hold,.s c.sel,.i c.apart,.s c.near,.s c.fixed,.s c.at_,.l bs,.i p,.l (c.likes.map Lk.e)]
section
variable {bs:List (List C)} (hb:BY bs) (hl:bs.length<=2000)
include hb hl
theorem HL {nm sv sel:Str} {rk bn rm hd:Int} {L:List Lk} (d e f g h i j k l m n z:C) (z1:nm.size<=1000) (z2:sv.size<=1000) (z3:sel.size<=1000) (z4:L.length<=20) (z5:∀x,x∈L->x.sel.size<=200) {p:Int} (h0:0<=p) (h1:p<=1125899906842624-100):
  ∃(c:Cp) (p':Int),apn 27 cg.d2 [.s sv,.l bs,.i p,d,e,f,g,h,i,j,k,l,m,n,.s nm,.s sv,.i rk,.i bn,.i rm,.i hd,.s sel,.i 0,.s (Go.Ev.bs #[]),.s (Go.Ev.bs #[]),.s (Go.Ev.bs #[]),z,.l (L.map Lk.e)]=some (.ret (c.q bs p'))/\c.Sz 1000/\p<=p'/\p'<=p+10:=by
 obtain ⟨x,hx,g1⟩:=ba hb hl h0 (show p<=1125899906842624 by omega) (n:=8) (by omega) (by omega)
 have key:∀(ap:Int) (nr fx:Str) (p':Int),nr.size<=1000->fx.size<=1000->p<=p'->p'<=p+10->∃(c:Cp) (q:Int),some (Out.ret [C.s nm,.s sv,.i rk,.i bn,.i rm,.i hd,.s sel,.i ap,.s nr,.s fx,.s (Go.Ev.bs #[]),.l bs,.i p',.l (L.map Lk.e)])=some (.ret (c.q bs q))/\c.Sz 1000/\p<=q/\q<=p+10:=fun ap nr fx p' hn hf q1 q2=>
  ⟨⟨nm,sv,rk,bn,rm,hd,sel,L,ap,nr,fx,Go.Ev.bs #[]⟩,p',rfl,⟨z1,z2,z3,hn,hf,by show (Go.Ev.bs #[]).size<=1000;decide,by show L.length<=1000;omega,fun x hx=>MR (z5 x hx) (by decide)⟩,q1,q2⟩
 have e0:(Go.Ev.bs #[]).size<=1000:=by decide
 simp only[apL,jC,jD,cg.d2,g1,call3,jI,C.I_i,C.L_l]
 cases q0:((x:Int)==0) with
 |true=>simp only[jR];exact key 1 _ _ _ e0 e0 (by omega) (by omega)
 |false=>
  cases q1:((x:Int)==1) with
  |true=>simp only[jR,jS];exact key 2 _ _ _ e0 e0 (by omega) (by omega)
  |false=>
   cases q2:((x:Int)==2) with
   |true=>
    obtain ⟨y,hy,g2⟩:=ba hb hl (p:=p+1) (n:=4) (by omega) (by omega) (by omega) (by omega)
    simp only[jR,jS,g2,jI,jC,jD,C.I_i,jX,Mt]
    rcases y with _|_|_|_|y
    ·exact key 0 (Go.Ev.bs #[119,101,98]) _ _ (by decide) e0 (by omega) (by omega)
    ·exact key 0 (Go.Ev.bs #[100,98]) _ _ (by decide) e0 (by omega) (by omega)
    ·exact key 0 (Go.Ev.bs #[103,111,110,101]) _ _ (by decide) e0 (by omega) (by omega)
    ·exact key 0 sv _ _ z2 e0 (by omega) (by omega)
    ·omega
   |false=>
    cases q3:((x:Int)==3) with
    |true=>
     obtain ⟨y,hy,g2⟩:=ba hb hl (p:=p+1) (n:=3) (by omega) (by omega) (by omega) (by omega)
     simp only[jR,jS,g2,jI,jC,jD,C.I_i]
     cases q4:((y:Int)==0) with
     |true=>
      obtain ⟨w,hw,g3⟩:=ba hb hl (p:=p+1+1) (n:=4) (by omega) (by omega) (by omega) (by omega)
      obtain ⟨s,g4,hs⟩:=F5 (n:=w) (by omega)
      have b1:(Go.Ev.bs #[98]).size=1:=rfl
      have c1:1+s.size<=4294967296:=by omega
      simp only[jR,g3,g4,ad,jI,jC,jD,C.S_s,b1,c1,Mt]
      exact key 0 _ _ _ e0 (by rw[MK,b1];omega) (by omega) (by omega)
     |false=>simp only[jS];exact key 0 _ _ _ e0 e0 (by omega) (by omega)
    |false=>simp only[jS];exact key 0 _ _ _ e0 e0 (by omega) (by omega)
theorem Di {n:Nat} (hn:n<=900) {p:Int} (h0:0<=p) (h1:p<=1125899906842624-20000):∃(c:Cp) (p':Int),cg [.i n,.l bs,.i p]=some (c.q bs p')/\c.Sz 1000/\p<=p'/\p'<=p+1000:=by
 obtain ⟨x1,k1,g1⟩:=ba hb hl h0 (show p<=1125899906842624 by omega) (n:=4) (by omega) (by omega)
 obtain ⟨s,g2,hs⟩:=F5 (n:=n) (by omega)
 obtain ⟨x3,k3,g3⟩:=ba hb hl (p:=p+1) (n:=6) (by omega) (by omega) (by omega) (by omega)
 obtain ⟨x4,k4,g4⟩:=ba hb hl (p:=p+1+1) (n:=30) (by omega) (by omega) (by omega) (by omega)
 obtain ⟨x5,k5,g5⟩:=ba hb hl (p:=p+1+1+1) (n:=7) (by omega) (by omega) (by omega) (by omega)
 obtain ⟨x6,k6,g6⟩:=ba hb hl (p:=p+1+1+1+1) (n:=8) (by omega) (by omega) (by omega) (by omega)
 obtain ⟨sel,p1,g7,a1,a2,a3⟩:=HR hb hl (p:=p+1+1+1+1+1) (by omega) (by omega)
 obtain ⟨x8,k8,g8⟩:=ba hb hl (p:=p1) (n:=5) (by omega) (by omega) (by omega) (by omega)
 have w1:w64 ((x8:Int)-2)=(x8:Int)-2:=aN (by omega) (by omega)
 have hsv:∃sv:Str,((rows [[C.s (Go.Ev.bs #[119,101,98])],[C.s (Go.Ev.bs #[100,98])],[C.s (Go.Ev.bs #[106,111,98])],[C.s (Go.Ev.bs #[99,97,99,104,101])]]).getD (x1:Int).toNat []).getD 0 .nil=.s sv/\sv.size<=10:=by
  rcases x1 with _|_|_|_|x1
  ·exact ⟨_,rfl,by decide⟩
  ·exact ⟨_,rfl,by decide⟩
  ·exact ⟨_,rfl,by decide⟩
  ·exact ⟨_,rfl,by decide⟩
  ·omega
 obtain ⟨sv,v1,v2⟩:=hsv
 have hrk:∃rk:Int,((rows [[C.i 1],[C.i 1],[C.i 5],[C.i 5],[C.i 9],[C.i 50]]).getD (x3:Int).toNat []).getD 0 .nil=.i rk:=by
  rcases x3 with _|_|_|_|_|_|x3
  ·exact ⟨_,rfl⟩
  ·exact ⟨_,rfl⟩
  ·exact ⟨_,rfl⟩
  ·exact ⟨_,rfl⟩
  ·exact ⟨_,rfl⟩
  ·exact ⟨_,rfl⟩
  ·omega
 obtain ⟨rk,r1⟩:=hrk
 have l1:decide ((x1:Int)<((rows [[C.s (Go.Ev.bs #[119,101,98])],[C.s (Go.Ev.bs #[100,98])],[C.s (Go.Ev.bs #[106,111,98])],[C.s (Go.Ev.bs #[99,97,99,104,101])]]).length:Int))=true:=by
  show decide ((x1:Int)<4)=true
  simp;omega
 have l3:decide ((x3:Int)<((rows [[C.i 1],[C.i 1],[C.i 5],[C.i 5],[C.i 9],[C.i 50]]).length:Int))=true:=by
  show decide ((x3:Int)<6)=true
  simp;omega
 have b1:(Go.Ev.bs #[45]).size=1:=rfl
 have b2:(sv++Go.Ev.bs #[45]).size=sv.size+1:=by rw[MK];rfl
 have b3:((sv++Go.Ev.bs #[45])++s).size=sv.size+1+s.size:=by rw[MK,b2]
 have c1:sv.size+1<=4294967296:=by omega
 have c2:sv.size+1+s.size<=4294967296:=by omega
 simp only[cg,cg.d3,apL,jC,jD,g1,g2,g3,g4,g5,g6,g7,g8,call3,ad,jI,C.I_i,jX,Mt,jR,v1,r1,l1,l3,C.S_s,b1,b2,c1,c2,w1]
 obtain ⟨L,p2,q1,q2,q3,q4,q5⟩:=yk hb hl (.s sv) (.s (Go.Ev.bs #[])) (.s (Go.Ev.bs #[])) (.i 0) (.i 0) (.i 0) (.i 0) (.s (Go.Ev.bs #[])) (.i 0) (.s (Go.Ev.bs #[])) (.s (Go.Ev.bs #[])) (.s (Go.Ev.bs #[])) (.s ((sv++Go.Ev.bs #[45])++s)) (.s sv) (.i rk) (.i x4) (.i (w64 (1+(x5:Int)))) (.i x6) (.s sel) (.i 0) (.s (Go.Ev.bs #[])) (.s (Go.Ev.bs #[])) (.s (Go.Ev.bs #[])) 3 ((x8:Int)-2) (p1+1) [] (by omega) (by omega) (by omega) (by omega) (by omega) (by simp) (fun x hx=>by simp at hx)
 simp only[MC] at q1
 have q1':=q1
 erw[q1']
 obtain ⟨c,p3,r2,r3,r4,r5⟩:=HL hb hl (nm:=(sv++Go.Ev.bs #[45])++s) (sv:=sv) (sel:=sel) (rk:=rk) (bn:=x4) (rm:=w64 (1+(x5:Int))) (hd:=x6) (L:=L) (.s (Go.Ev.bs #[])) (.s (Go.Ev.bs #[])) (.i 0) (.i 0) (.i 0) (.i 0) (.s (Go.Ev.bs #[])) (.i 0) (.s (Go.Ev.bs #[])) (.s (Go.Ev.bs #[])) (.s (Go.Ev.bs #[])) (.l af) (by rw[b3];omega) (by omega) (by omega) q2 q3 (p:=p2) (by omega) (by omega)
 refine ⟨c,p3,?_,r3,by omega,by omega⟩
 simp only[aq]
 erw[r2]
 rfl
end
end Go.Ev
namespace Go.Ev
abbrev cV (f:Fl):List C:=[.l (f.bts.map Bt.e),.l (f.svs.map Sv.e),.l (f.cps.map Cp.e)]
abbrev Z0:List C:=[.s (Go.Ev.bs #[]),.s (Go.Ev.bs #[]),.i 0,.i 0,.b false]
def Cp.fl (c:Cp):List C:=[.s c.name,.s c.svc,.i c.rank,.i c.born,.i c.room,.i c.hold,.s c.sel,.i c.apart,.s c.near,.s c.fixed,.s c.at_]
def Cp.lk (c:Cp):List (List C):=c.likes.map Lk.e
abbrev pB (c:Cp):List C:=.i 3::(Z0++c.fl++[.s (Go.Ev.bs #[]),.s (Go.Ev.bs #[])])
abbrev wL (nm at_:Str):List C:=.i 5::(Z0++[.s (Go.Ev.bs #[]),.s (Go.Ev.bs #[]),.i 0,.i 0,.i 0,.i 0,.s (Go.Ev.bs #[]),.i 0,.s (Go.Ev.bs #[]),.s (Go.Ev.bs #[]),.s (Go.Ev.bs #[])]++[.s nm,.s at_])
theorem vG {c:Cp} (h:c.likes.length<=1048576):gF (c.fl++[.l c.lk])=some (c.fl++[.l c.lk,.l c.lk]):=by
 have:c.likes.length<=4294967296:=by omega
 simp[gF,gF.d1,Cp.fl,Cp.lk,this]
section
variable {f:Fl} (hz:f.Sz 1048576)
include hz
theorem rW:bP f.e=some ([C.b f.pack]++cV f++cV f):=by
 have hlb:f.bts.length<big:=by have:=hz.1.1;simp only[big];omega
 have hlc:f.cps.length<big:=by have:=hz.2.2.1;simp only[big];omega
 have h1:=bQ (body:=apn 13 bP.d1) (S:=fun i=>[C.i (i:Nat)]++cV f++[C.b f.pack,C.b false,C.b f.pack,.l af,.l af,.l af,C.l ((f.bts.take i).map Bt.e),C.l (f.svs.map Sv.e),.l af]) (n:=f.bts.length) (b:=0) (ys:=cV f++[C.b f.pack,C.b false,C.b f.pack,.l af,.l af,.l af,C.l ((f.bts.take f.bts.length).map Bt.e),C.l (f.svs.map Sv.e),.l af])
  (fun i hi=>by
   have hc:=rp (hz.1.2 _ (Mq hi)).2.2.1
   have hn:(f.bts.take i).length+1<=4294967296:=by rw[ME];have:=hz.1.1;omega
   have sn:=mK Bt.e hi
   simp only[Bt.e,Bt.o] at hc
   simp only[cV,jA,jB,apL,jC,jD,bP.d1,C.I_i,C.L_l,jW,jY,getD_map' Bt.e hi,ltL hi,Mt,jR,jX,w1 hi hlb]
   simp only[Bt.e] at sn
   simp only[Bt.e,jC,jD,hc,call6,jI,C.L_l,rows,Mn,Mo,My,hn,Mt,jR,sn])
  (by simp[bP.d1,cV]) f.bts.length 0 rfl
 have h2:=bQ (body:=apn 13 bP.d2) (S:=fun i=>[C.i (i:Nat)]++cV f++[C.b f.pack,C.b false,C.b f.pack,.l af,.l af,.l af,C.l (f.bts.map Bt.e),C.l (f.svs.map Sv.e),C.l ((f.cps.take i).map Cp.e)]) (n:=f.cps.length) (b:=2) (ys:=cV f++[C.b false,C.b f.pack,.l af,.l af,.l af,C.l (f.bts.map Bt.e),C.l (f.svs.map Sv.e),C.l ((f.cps.take f.cps.length).map Cp.e)])
  (fun i hi=>by
   have hc:=sK (hz.2.2.2 _ (Mq hi)).2.2.2.2.2.2.1
   have hn:(f.cps.take i).length+1<=4294967296:=by rw[ME];have:=hz.2.2.1;omega
   have sn:=mK Cp.e hi
   simp only[Cp.e,Cp.o] at hc
   simp only[cV,jA,jB,apL,jC,jD,bP.d2,C.I_i,C.L_l,jW,jY,getD_map' Cp.e hi,ltL hi,Mt,jR,jX,w1 hi hlc]
   simp only[Cp.e] at sn
   simp only[Cp.e,jC,jD,hc,call12,jI,C.L_l,rows,Mn,Mo,My,hn,Mt,jR,sn])
  (by simp[bP.d2,cV]) f.cps.length 0 rfl
 have hs:0+f.svs.length<=4294967296:=by have:=hz.2.1.1;omega
 simp only[cV,jA,jB,Mr,Nc,MC,Na] at h1 h2
 rw[show af=([]:List (List C)) from rfl] at h1 h2
 simp only[bP,bP.d5,Fl.e,apL,jC,jD,C.L_l,C.B_b,jW,show af=([]:List (List C)) from rfl,Mo,hs,Mt,jR,jB]
 rw[h1]
 simp only[aq,apL,jC,jD,bP.d4,C.L_l,jW]
 rw[h2]
 simp[bP.d3]
abbrev evL (f:Fl) (E:List C) (mk lk:List (List C)):List C:=.b f.pack::(E++cV f++[.l mk,.l lk])
abbrev evR (f:Fl) (x:C) (pk:Bool) (mk lk:List (List C)) (g:Fl):List C:=[.b pk,x]++cV f++[.l mk,.l lk]++cV g
theorem FJ {c:Cp} (hc:c.Sz 1048576) (h60:f.cps.length<=1000):
  ∃l:List Cp,aM (evL f (pB c) [] c.lk)=some (evR f (.b true) f.pack [] c.lk {f with cps:=l})/\l.length<=f.cps.length+1/\∀x,x∈l->x∈f.cps∨x=c:=by
 have hF:=rW hz
 have hco:=vG hc.2.2.2.2.2.2.1
 have hlc:f.cps.length<big:=by simp only[big];omega
 obtain ⟨j,hj,h1⟩:=Kl (l:=f.cps) c.name (body:=apn 33 aM.d6) (S:=fun i=>[C.i (i:Nat)]++cV f++[.l [],.l c.lk]++pB c++[.b false,.b f.pack,.l [],.l [],.l []]++cV f)
  (fun i hi=>by
   simp only[evL,evR,pB,wL,cV,Z0,Cp.fl,jA,jB,apL,jC,jD,aM.d6,C.I_i,C.L_l,C.S_s,jW,jY,ltL hi,Mt,jR,jX,w1 hi hlc]
   rw[getD_map' Cp.e hi]
   simp only[Cp.e,jC,C.S_s]
   rw[show Op.bytesLess f.cps[i].name.toList c.name.toList=sLt f.cps[i].name c.name from rfl]
   cases sLt f.cps[i].name c.name<;>simp)
  (by simp[Z0,Cp.fl,aM.d6,cV])
  f.cps.length 0 (by omega)
 have hrest:∃r:List Cp,(∀x,x∈r->x∈f.cps)/\r.length<=f.cps.length-j/\apn 33 aM.d8 ([C.i (j:Nat)]++cV f++[.l [],.l c.lk]++pB c++[.b false,.b f.pack,.l [],.l [],.l []]++cV f)=some (.ret (evR f (.b true) f.pack [] c.lk {f with cps:=f.cps.take j++[c]++r})):=by
  have d7:∀r:List Cp,r.length<=f.cps.length->apn 34 aM.d7 ([C.i (j:Nat),.l (r.map Cp.e)]++cV f++[.l [],.l c.lk]++pB c++[.b false,.b f.pack,.l (f.cps.map Cp.e),.l [],.l [],.l [],.l (f.bts.map Bt.e),.l (f.svs.map Sv.e)])=some (.ret (evR f (.b true) f.pack [] c.lk {f with cps:=f.cps.take j++[c]++r})):=fun r hr=>by
   have b1:(j:Int)<=(f.cps.length:Int):=by omega
   have b2:min j f.cps.length<=4294967296:=by omega
   have b3:min j f.cps.length+1<=4294967296:=by omega
   have b4:min j f.cps.length+1+r.length<=4294967296:=by omega
   simp only[Cp.fl,Cp.lk,jA,jB] at hco
   simp only[evL,evR,pB,wL,cV,Z0,Cp.fl,jA,jB,apL,jC,jD,aM.d7,C.I_i,C.L_l,jW,jY,jX,Mt,jR,hco,call13,jI,b1,Nb,af,ME,b2,My,Mo,MP,rows,Mn,b3,b4,MZ,MD,MC,List.map_take,Cp.e,Cp.lk]
  by_cases hn:j<f.cps.length
  ·have hd:f.cps.drop j=f.cps[j]::f.cps.drop (j+1):=MU hn
   have hl1:(f.cps.drop (j+1)).length<=f.cps.length:=by rw[MQ];omega
   have hb1:(j:Int)<=(f.cps.length:Int):=by omega
   have e1:((f.cps.map Cp.e).take (f.cps.length:Int).toNat).drop (j:Int).toNat=f.cps[j].e::(f.cps.drop (j+1)).map Cp.e:=by
    rw[jY,jY,List.take_of_length_le (by rw[jW];omega),←List.map_drop,hd];rfl
   cases hq:sEq f.cps[j].name c.name with
   |true=>
    refine ⟨f.cps.drop (j+1),fun x hx=>List.mem_of_mem_drop hx,by rw[MQ];omega,?_⟩
    rw[←d7 _ hl1]
    have e2:(f.cps[j].name.toList==c.name.toList)=true:=hq
    have hbs:=e1
    simp only[Cp.e] at hbs
    simp only[evL,evR,pB,wL,cV,Z0,Cp.fl,jA,jB,apL,jC,jD,aM.d8,C.I_i,C.L_l,C.S_s,jW,jX,Mt,jR,hb1,Int.le_refl,e1,Cp.e,Mn,e2,jJ]
    have t1:(((f.cps.drop (j+1)).length+1:Nat):Int)>0:=by omega
    have t2:(0:Int)<(((f.cps.drop (j+1)).length+1:Nat):Int):=by omega
    have t3:(1:Int)<=(((f.cps.drop (j+1)).length+1:Nat):Int):=by omega
    simp only[t1,t2,t3,Mt,jR,jJ,jY,List.take_succ_cons,List.drop_succ_cons,Nb]
    rw[List.take_of_length_le (by rw[jW];exact Mp _)]
    rfl
   |false=>
    refine ⟨f.cps.drop j,fun x hx=>List.mem_of_mem_drop hx,by rw[MQ];omega,?_⟩
    rw[←d7 _ (by rw[MQ];omega)]
    have e2:(f.cps[j].name.toList==c.name.toList)=false:=hq
    simp only[evL,evR,pB,wL,cV,Z0,Cp.fl,jA,jB,apL,jC,jD,aM.d8,C.I_i,C.L_l,C.S_s,jW,jX,Mt,jR,hb1,Int.le_refl,e1,Cp.e,Mn,e2,jJ]
    have t1:(((f.cps.drop (j+1)).length+1:Nat):Int)>0:=by omega
    have t2:(0:Int)<(((f.cps.drop (j+1)).length+1:Nat):Int):=by omega
    simp only[t1,t2,Mt,jR,jS,jJ,hd,MD]
    rfl
  ·refine ⟨[],fun x hx=>by simp at hx,by simp,?_⟩
   rw[←d7 _ (by simp)]
   have e1:((f.cps.map Cp.e).take (f.cps.length:Int).toNat).drop (j:Int).toNat=[]:=by
    rw[jY,jY];apply List.drop_eq_nil_of_le;rw[ME,jW];omega
   have hb1:(j:Int)<=(f.cps.length:Int):=by omega
   simp only[evL,evR,pB,wL,cV,Z0,Cp.fl,jA,jB,apL,jC,jD,aM.d8,C.I_i,C.L_l,C.S_s,jW,jX,Mt,jR,hb1,Int.le_refl,e1,Mo,jJ]
   rfl
 obtain ⟨r,r1,r2,r3⟩:=hrest
 refine ⟨f.cps.take j++[c]++r,?_,?_,fun x hx=>?_⟩
 ·simp only[aM,evL,evR,pB,wL,cV,Z0,Fl.e,Cp.fl,jA,jB] at hF h1 r3⊢
  simp only[aM.d9,apL,jC,jD,hF,call7,jI,C.I_i,C.L_l,af]
  simp only[show ((3:Int)==1)=false from rfl,show ((3:Int)==2)=false from rfl,show ((3:Int)==3)=true from rfl,jS,jR]
  simp only[Mr] at h1
  erw[h1]
  simp only[aq,r3]
  rfl
 ·simp only[MP,ME,Mn,Mo];omega
 ·rcases MO.1 hx with hx|hx
  ·rcases MO.1 hx with hx|hx
   ·exact .inl (List.mem_of_mem_take hx)
   ·exact .inr (MH.1 hx)
  ·exact .inl (r1 x hx)
theorem JF (nm at_:Str) (h12:f.bts.length<=1000) (h60:f.cps.length<=1000):
  ∃(l:List Cp) (ok:Bool),aM (evL f (wL nm at_) [] [])=some (evR f (.b ok) f.pack [] [] {f with cps:=l})/\l.length=f.cps.length/\∀x,x∈l->x∈f.cps∨∃y,y∈f.cps/\x= {y with at_:=at_}:=by
 have hF:=rW hz
 have hC:=gj f nm (by omega)
 have hB:=ko f at_ (by omega)
 have sd:=kV (fun x:Cp=>sEq x.name nm) f.cps 0
 have fin:aM (evL f (wL nm at_) [] [])=bif decide (cIx f nm<0) then some (evR f (.b false) f.pack [] [] f) else bif (!(at_.toList==(Go.Ev.bs #[]).toList))&&decide (bIx f at_<0) then some (evR f (.b false) f.pack [] [] f) else bif decide (0<=cIx f nm)&&decide (cIx f nm<(f.cps.length:Int)) then some ([C.b f.pack,.b true]++cV f++[.l [],.l []]++[.l (f.bts.map Bt.e),.l (f.svs.map Sv.e),.l ((f.cps.map Cp.e).set (cIx f nm).toNat (aB ((f.cps.map Cp.e).getD (cIx f nm).toNat []) 11 [.s at_]))]) else none:=by
  simp only[Fl.e,cV,jA,jB] at hF
  simp only[Fl.e,jA,jB] at hC hB
  simp only[aM,evL,evR,pB,wL,Z0,Fl.e,cV,jA,jB]
  simp only[aM.d9,apL,jC,jD,hF,call7,ad,jI,C.I_i,C.L_l,C.S_s,af,hC,hB]
  simp only[show ((5:Int)==1)=false from rfl,show ((5:Int)==2)=false from rfl,show ((5:Int)==3)=false from rfl,show ((5:Int)==4)=false from rfl,show ((5:Int)==5)=true from rfl,jS,jR]
  rw[jW]
  cases decide (cIx f nm<0)<;>cases (at_.toList==(Go.Ev.bs #[]).toList)<;>cases decide (bIx f at_<0)<;>cases decide (0<=cIx f nm)<;>cases decide (cIx f nm<(f.cps.length:Int))<;>rfl
 rw[fin]
 rcases sd with sd|⟨i,hi,e1,e2⟩
 ·rw[show decide (cIx f nm<0)=true from decide_eq_true sd,jR]
  exact ⟨f.cps,false,rfl,rfl,fun x hx=>.inl hx⟩
 ·have e1:cIx f nm=((i:Nat):Int):=by rw[show cIx f nm=ew (fun x:Cp=>sEq x.name nm) f.cps 0 from rfl,e1,My]
  rw[e1,show decide (((i:Nat):Int)<0)=false from decide_eq_false (by omega),jS]
  cases (!(at_.toList==(Go.Ev.bs #[]).toList))&&decide (bIx f at_<0) with
  |true=>exact ⟨f.cps,false,rfl,rfl,fun x hx=>.inl hx⟩
  |false=>
   rw[jS,ltL hi,show decide (0<=((i:Nat):Int))=true from decide_eq_true (by omega),jY,getD_map' Cp.e hi]
   refine ⟨f.cps.set i {f.cps[i] with at_:=at_},true,?_,MI,fun x hx=>?_⟩
   ·simp only[evR,cV,Nr];rfl
   ·rcases Nq hx with hx|hx
    ·exact .inl hx
    ·exact .inr ⟨_,Mq hi,hx⟩
theorem Ck {k:Int} (hk1:1<=k) (hk5:k<=5) {E:List C} (hE:E.length=18) {mk lk:List (List C)} {l:List Cp} {ok:Bool} (hx:({f with cps:=l}:Fl).Sz 1048576) (he:aM (evL f (.i k::E) mk lk)=some (evR f (.b ok) f.pack mk lk {f with cps:=l})):
  ∃(x:Fl) (code:Int),bV (evL f (.i k::E) mk lk)=some (evR f (.i code) x.pack mk lk x)/\(code=0->x= {f with cps:=l}/\bl x=true):=by
 have v1:=fq hz
 have v2:=fq hx
 have w:=fU k 1 5
 have w':within k 1 5=true:=by simp[within,hk1,hk5]
 have z:∀code:Int,code≠0->∃(x:Fl) (c:Int),some ([C.b false,.i code]++cV f++[.l mk,.l lk,.l [],.l [],.l []])=some (evR f (.i c) x.pack mk lk x)/\(c=0->x= {f with cps:=l}/\bl x=true):=fun code h=>⟨⟨false,[],[],[]⟩,code,rfl,fun h'=>absurd h' h⟩
 match E,hE with
 |[e1,e2,e3,e4,e5,e6,e7,e8,e9,e10,e11,e12,e13,e14,e15,e16,e17,e18],_=>
  simp only[evL,evR,Fl.e,cV,jA,jB] at he v1 v2 z⊢
  simp only[bV,bV.d2,evL,cV,jA,jB,apL,jC,jD,C.L_l,v1,ad,jI,he,call10,C.B_b,v2,af]
  cases hv:bl f with
  |false=>exact z 1 (by decide)
  |true=>
   cases ok with
   |false=>exact z 3 (by decide)
   |true=>
    cases hv2:bl {f with cps:=l} with
    |false=>exact z 2 (by decide)
    |true=>
     refine ⟨{f with cps:=l},0,?_,fun _=>⟨rfl,hv2⟩⟩
     simp only[bV.d1,apL,jC,jD,jZ,jS,jR,jJ,C.B_b,w,w',ad,jI,C.L_l]
     rfl
end
end Go.Ev
namespace Go.Ev
section
variable {bts:List Bt} {svs:List Sv} {pk:Bool} (hbt:bts.length<=12/\∀b,b∈bts->b.Sz 1000) (hsv:svs.length<=30/\∀s,s∈svs->s.Sz 1000)
include hbt hsv
theorem Dr.pB {f:Fl} (D:Dr bts svs pk f) {c:Cp} (hc:c.Sz 1000):
  ∃(x:Fl) (code:Int),bV (evL f (Go.Ev.pB c) [] c.lk)=some (evR f (.i code) x.pack [] c.lk x)/\(code=0->Dr bts svs pk x):=by
 have hz:=(D.szD hbt hsv).up
 obtain ⟨l,h1,h2,h3⟩:=FJ hz hc.up (by have:=D.n;omega)
 have hl:∀x,x∈l->x.Sz 1000:=fun x hx=>(h3 x hx).elim (D.z x) (fun e=>e▸hc)
 have hx:({f with cps:=l}:Fl).Sz 1048576:=⟨hz.1,hz.2.1,by show l.length<=1048576;have:=D.n;omega,fun x h=>(hl x h).up⟩
 obtain ⟨x,code,g1,g2⟩:=Ck hz (by decide) (by decide) (by simp[Z0,Cp.fl]) hx h1
 refine ⟨x,code,g1,fun h=>?_⟩
 obtain ⟨rfl,q⟩:=g2 h
 exact ⟨D.b,D.s,D.p,wH (fB q),hl,.inr q⟩
theorem Dr.wL {f:Fl} (D:Dr bts svs pk f) {nm at_:Str} (ha:at_.size<=1000):
  ∃(x:Fl) (code:Int),bV (evL f (Go.Ev.wL nm at_) [] [])=some (evR f (.i code) x.pack [] [] x)/\(code=0->Dr bts svs pk x):=by
 have hz:=(D.szD hbt hsv).up
 obtain ⟨l,ok,h1,h2,h3⟩:=JF hz nm at_ (by rw[D.b];omega) (by have:=D.n;omega)
 have hl:∀x,x∈l->x.Sz 1000:=fun x hx=>(h3 x hx).elim (D.z x) (fun ⟨y,hy,e⟩=>by
  have:=D.z y hy
  rw[e]
  exact ⟨this.1,this.2.1,this.2.2.1,this.2.2.2.1,this.2.2.2.2.1,ha,this.2.2.2.2.2.2⟩)
 have hx:({f with cps:=l}:Fl).Sz 1048576:=⟨hz.1,hz.2.1,by show l.length<=1048576;have:=D.n;omega,fun x h=>(hl x h).up⟩
 obtain ⟨x,code,g1,g2⟩:=Ck hz (by decide) (by decide) (by simp[Z0]) hx h1
 refine ⟨x,code,g1,fun h=>?_⟩
 obtain ⟨rfl,q⟩:=g2 h
 exact ⟨D.b,D.s,D.p,wH (fB q),hl,.inr q⟩
end
section
variable {bs:List (List C)} (hb:BY bs) (hl:bs.length<=2000)
include hb hl
abbrev nl3:List C:=[.l [],.l [],.l []]
section
variable {bts:List Bt} {svs:List Sv} {pk:Bool} (hbt:bts.length<=12/\∀b,b∈bts->b.Sz 1000) (hsv:svs.length<=30/\∀s,s∈svs->s.Sz 1000)
include hbt hsv
theorem K1 (k:C):∀(n:Nat) (f:Fl) (p:Int),Dr bts svs pk f->n<=20->0<=p->p<=1125899906842624-35000+(0-1000)*n->
  ∃(f':Fl) (p':Int),lim (apn 12 aQ.d3) ([k,.i n,.l bs,.i p,.b false,.b f.pack]++nl3++cV f)=some (.brk 4 ([k,.l bs,.i p',.b false,.b f'.pack]++nl3++cV f'))/\Dr bts svs pk f'/\p<=p'/\p'<=p+1000*n:=by
 intro n
 induction n with
 |zero=>
  intro f p D hn h0 h1
  refine ⟨f,p,aR ?_,D,by omega,by omega⟩
  rfl
 |succ n ih=>
  intro f p D hn h0 h1
  obtain ⟨c,p1,g1,a1,a2,a3⟩:=Di hb hl (n:=n+1) (by omega) (p:=p) h0 (by omega)
  obtain ⟨x,code,e1,e2⟩:=D.pB hbt hsv a1
  have c0:(((n+1:Nat):Int)>0):=by omega
  have ww:w64 (((n+1:Nat):Int)-1)=(n:Int):=by rw[aN (by omega) (by omega)];omega
  have stp:apn 12 aQ.d3 ([k,.i (n+1:Nat),.l bs,.i p,.b false,.b f.pack]++nl3++cV f)=bif code==0 then some (.again ([k,.i n,.l bs,.i p1,.b false,.b x.pack]++nl3++cV x)) else some (.again ([k,.i n,.l bs,.i p1,.b false,.b f.pack]++nl3++cV f)):=by
   simp only[evL,evR,cV,pB,Z0,Cp.fl,Cp.lk,jA,jB] at e1
   simp only[Cp.q] at g1
   simp only[nl3,cV,jA,jB,apL,jC,jD,aQ.d3,C.I_i,c0,Mt,jR,g1,call14,jI,af,C.L_l,e1,call10,ww]
  cases hq:(code==0) with
  |true=>
   obtain ⟨f',p',q1,q2,q3,q4⟩:=ih x p1 (e2 (by simpa using hq)) (by omega) (by omega) (by omega)
   refine ⟨f',p',?_,q2,by omega,by omega⟩
   rw[aD (by rw[stp,hq];rfl),q1]
  |false=>
   obtain ⟨f',p',q1,q2,q3,q4⟩:=ih f p1 D (by omega) (by omega) (by omega)
   refine ⟨f',p',?_,q2,by omega,by omega⟩
   rw[aD (by rw[stp,hq];rfl),q1]
end
section
variable {bts:List Bt} {svs:List Sv} {pk:Bool} (hbt:(1<=bts.length/\bts.length<=12)/\∀b,b∈bts->b.Sz 1000) (hsv:svs.length<=30/\∀s,s∈svs->s.Sz 1000)
include hbt hsv
abbrev stf (k:C) (i:Int) (bs:List (List C)) (p:Int) (f:Fl):List C:=[k,.i i,.l bs,.i p,.b false,.b f.pack]++nl3++cV f
theorem KD (k:C) {f:Fl} (D:Dr bts svs pk f) {i:Nat} (hi:i<f.cps.length) (b:Bt) (hbb:b.name.size<=1000) (fl:Bool) (p:Int):
  ∃f',apn 19 aQ.d4 ([k,.i i,.b fl,.l bs,.i p,.b false,.b f.pack]++b.e++nl3++cV f)=some (.again (stf k (i+1:Nat) bs p f'))/\Dr bts svs pk f':=by
 have hlc:f.cps.length<big:=by have:=D.n;simp only[big];omega
 obtain ⟨x,code,e1,e2⟩:=D.wL ⟨hbt.1.2,hbt.2⟩ hsv (nm:=f.cps[i].name) (at_:=b.name) hbb
 cases fl with
 |false=>
  refine ⟨f,?_,D⟩
  simp only[stf,nl3,cV,Bt.e,jA,jB,apL,jC,jD,aQ.d4,C.B_b,jS,C.I_i,w1 hi hlc,C.L_l]
 |true=>
  have stp:apn 19 aQ.d4 ([k,.i i,.b true,.l bs,.i p,.b false,.b f.pack]++b.e++nl3++cV f)=bif code==0 then some (.again (stf k (i+1:Nat) bs p x)) else some (.again (stf k (i+1:Nat) bs p f)):=by
   simp only[evL,evR,cV,wL,Z0,jA,jB] at e1
   simp only[stf,nl3,cV,Bt.e,jA,jB,apL,jC,jD,aQ.d4,C.B_b,jR,C.I_i,w1 hi hlc,C.L_l,jW,ltL hi,jX,Mt,jY]
   rw[getD_map' Cp.e hi]
   simp only[Cp.e,jC,jD,af]
   simp only[e1,call10,jI,jC,jD,C.I_i,C.L_l]
  cases hq:(code==0) with
  |true=>exact ⟨x,by rw[stp,hq];rfl,e2 (by simpa using hq)⟩
  |false=>exact ⟨f,by rw[stp,hq];rfl,D⟩
theorem KC (a:Int):∀(d i:Nat) (f:Fl) (p:Int),60<=i+d->Dr bts svs pk f->0<=p->p<=1125899906842624-20000+(0-10)*d->
  ∃(f':Fl) (p':Int),lim (apn 12 aQ.d5) (stf (.i a) i bs p f)=some (.brk 6 ([.l bs,.i p',.b false,.b f'.pack]++nl3++cV f'))/\Dr bts svs pk f'/\p<=p'/\p'<=p+10*d:=by
 intro d
 induction d with
 |zero=>
  intro i f p hn D h0 h1
  refine ⟨f,p,aR ?_,D,by omega,by omega⟩
  have:¬((i:Int)<(f.cps.length:Int)):=by have:=D.n;omega
  simp only[stf,nl3,cV,jA,jB,apL,jC,jD,aQ.d5,C.I_i,C.L_l,jW,this,Mu,jS]
 |succ d ih=>
  intro i f p hn D h0 h1
  by_cases hi:i<f.cps.length
  ·have hlc:f.cps.length<big:=by have:=D.n;simp only[big];omega
   have hne:f.cps≠[]:=fun h=>by rw[h] at hi;simp at hi
   have hv:bl f=true:=D.v.resolve_left hne
   have hz:=(D.szD ⟨hbt.1.2,hbt.2⟩ hsv).up
   obtain ⟨m,hm,g1⟩:=ba hb hl h0 (show p<=1125899906842624 by omega) (n:=4) (by omega) (by omega)
   have hn1:f.bts.length=bts.length:=by rw[D.b]
   obtain ⟨j,hj,g2⟩:=ba hb hl (p:=p+1) (n:=(f.bts.length:Int)) (by omega) (by omega) (by omega) (by omega)
   have hj':j<f.bts.length:=by omega
   obtain ⟨t,ht,g3⟩:=ba hb hl (p:=p+1+1) (n:=8) (by omega) (by omega) (by omega) (by omega)
   have hcm:=Mq hi
   have hbm:=Mq hj'
   have vb:=fB hv
   have hf:=ra hz (hz.2.2.2 _ hcm) (hz.1.2 _ hbm) (vb.bb _ hbm) vb (vb.cb _ hcm).1 (vb.cb _ hcm).2.1 true
   have hbs:(f.bts[j]).name.size<=1000:=by
    have:f.bts[j]∈bts:=by rw[←D.b];exact hbm
    exact (hbt.2 _ this).1
   have key:∀(fl:Bool) (q:Int),p<=q->q<=p+10->∃(f':Fl) (p':Int),(∃ys,apn 19 aQ.d4 ([.i a,.i i,.b fl,.l bs,.i q,.b false,.b f.pack]++f.bts[j].e++nl3++cV f)=some (.again ys)/\lim (apn 12 aQ.d5) ys=some (.brk 6 ([.l bs,.i p',.b false,.b f'.pack]++nl3++cV f')))/\Dr bts svs pk f'/\p<=p'/\p'<=p+10*(d+1:Nat):=fun fl q q1 q2=>by
    obtain ⟨x,r1,r2⟩:=KD hb hl hbt hsv (.i a) D hi f.bts[j] hbs fl q
    obtain ⟨f',p',r3,r4,r5,r6⟩:=ih (i+1) x q (by omega) r2 (by omega) (by omega)
    exact ⟨f',p',⟨_,r1,r3⟩,r4,by omega,by omega⟩
   have key0:∃(f':Fl) (p':Int),(∃ys,some (Out.again (stf (.i a) (i+1:Nat) bs (p+1) f))=some (.again ys)/\lim (apn 12 aQ.d5) ys=some (.brk 6 ([.l bs,.i p',.b false,.b f'.pack]++nl3++cV f')))/\Dr bts svs pk f'/\p<=p'/\p'<=p+10*(d+1:Nat):=by
    obtain ⟨f',p',r3,r4,r5,r6⟩:=ih (i+1) f (p+1) (by omega) D (by omega) (by omega)
    exact ⟨f',p',⟨_,rfl,r3⟩,r4,by omega,by omega⟩
   have stp:apn 12 aQ.d5 (stf (.i a) i bs p f)=bif decide ((m:Int)<a) then (bif !((eL f f.cps[i] f.bts[j] true:Nat):Int)==0 then bif decide (((eL f f.cps[i] f.bts[j] true:Nat):Int)<6) then apn 19 aQ.d4 ([.i a,.i i,.b ((t:Int)==0),.l bs,.i (p+1+1+1),.b false,.b f.pack]++f.bts[j].e++nl3++cV f) else apn 19 aQ.d4 ([.i a,.i i,.b false,.l bs,.i (p+1+1),.b false,.b f.pack]++f.bts[j].e++nl3++cV f) else apn 19 aQ.d4 ([.i a,.i i,.b true,.l bs,.i (p+1+1),.b false,.b f.pack]++f.bts[j].e++nl3++cV f)) else some (.again (stf (.i a) (i+1:Nat) bs (p+1) f)):=by
    simp only[Fl.e,Cp.e,Bt.e,jA,jB] at hf
    simp only[stf,nl3,cV,jA,jB,apL,jC,jD,aQ.d5,C.I_i,C.L_l,jW,ltL hi,Mt,jR,g1,call3,jI,g2,jX,ltL hj',jY,w1 hi hlc]
    rw[getD_map' Cp.e hi,getD_map' Bt.e hj']
    simp only[Cp.e,Bt.e,jC,jD]
    simp only[hf,ad,jI,jC,jD,C.I_i,g3,C.L_l]
    cases decide ((m:Int)<a)<;>cases (((eL f f.cps[i] f.bts[j] true:Nat):Int)==0)<;>cases decide (((eL f f.cps[i] f.bts[j] true:Nat):Int)<6)<;>rfl
   have fin:∃(f':Fl) (p':Int),(∃ys,apn 12 aQ.d5 (stf (.i a) i bs p f)=some (.again ys)/\lim (apn 12 aQ.d5) ys=some (.brk 6 ([.l bs,.i p',.b false,.b f'.pack]++nl3++cV f')))/\Dr bts svs pk f'/\p<=p'/\p'<=p+10*(d+1:Nat):=by
    rw[stp]
    cases decide ((m:Int)<a) with
    |false=>exact key0
    |true=>
     cases (((eL f f.cps[i] f.bts[j] true:Nat):Int)==0) with
     |true=>exact key true _ (by omega) (by omega)
     |false=>
      cases decide (((eL f f.cps[i] f.bts[j] true:Nat):Int)<6) with
      |true=>exact key _ _ (by omega) (by omega)
      |false=>exact key false _ (by omega) (by omega)
   obtain ⟨f',p',⟨ys,r1,r2⟩,r3,r4,r5⟩:=fin
   exact ⟨f',p',by rw[aD r1,r2],r3,r4,r5⟩
  ·refine ⟨f,p,aR ?_,D,by omega,by omega⟩
   have:¬((i:Int)<(f.cps.length:Int)):=by omega
   simp only[stf,nl3,cV,jA,jB,apL,jC,jD,aQ.d5,C.I_i,C.L_l,jW,this,Mu,jS]
end
theorem I0 {p:Int} (h0:0<=p) (h1:p<=1125899906842624-70000):
  ∃(bts:List Bt) (svs:List Sv) (pk:Bool) (f:Fl) (p':Int),aQ [.l bs,.i p]=some ([C.b f.pack,.l bs,.i p']++cV f)/\Dr bts svs pk f/\((1<=bts.length/\bts.length<=12)/\∀b,b∈bts->b.Sz 1000)/\(svs.length=4/\∀s,s∈svs->s.Sz 1000)/\p<=p'/\p'<=p+30000:=by
 obtain ⟨c,hc,g1⟩:=ba hb hl h0 (show p<=1125899906842624 by omega) (n:=2) (by omega) (by omega)
 obtain ⟨n,hn,g2⟩:=ba hb hl (p:=p+1) (n:=5) (by omega) (by omega) (by omega) (by omega)
 have w2:w64 (1+(n:Int))=((n+1:Nat):Int):=by rw[aN (by omega) (by omega)];omega
 obtain ⟨bts,p1,q1,q2,q3,q4,q5⟩:=LO hb hl ((c:Int)==0) (n+1) (n+1) [] (p+1+1) (by simp) (by omega) (fun b hb=>by simp at hb) (by omega) (by omega)
 obtain ⟨svs,p2,r1,r2,r3,r4,r5⟩:=LI hb hl ((c:Int)==0) (bts.map Bt.e) 4 [] p1 (by simp) (fun b hb=>by simp at hb) (by omega) (by omega)
 obtain ⟨k,hk,g3⟩:=ba hb hl (p:=p2) (n:=4) (by omega) (by omega) (by omega) (by omega)
 obtain ⟨m,hm,g4⟩:=ba hb hl (p:=p2+1) (n:=14) (by omega) (by omega) (by omega) (by omega)
 have w3:w64 (1+(m:Int))=((m+1:Nat):Int):=by rw[aN (by omega) (by omega)];omega
 have D0:Dr bts svs ((c:Int)==0) ⟨((c:Int)==0),bts,svs,[]⟩:=⟨rfl,rfl,rfl,by simp,fun c hc=>by simp at hc,.inl rfl⟩
 obtain ⟨f1,p3,t1,t2,t3,t4⟩:=K1 hb hl ⟨by omega,q3⟩ ⟨by omega,r3⟩ (.i k) (m+1) _ (p2+1+1) D0 (by omega) (by omega) (by omega)
 obtain ⟨f2,p4,u1,u2,u3,u4⟩:=KC hb hl ⟨⟨by omega,by omega⟩,q3⟩ ⟨by omega,r3⟩ (k:Int) 60 0 f1 p3 (by omega) t2 (by omega) (by omega)
 refine ⟨bts,svs,(c:Int)==0,f2,p4,?_,u2,⟨⟨by omega,by omega⟩,q3⟩,⟨r2,r3⟩,by omega,by omega⟩
 simp only[MC,Mo,Mr] at q1 r1
 simp only[stf,nl3,cV,jA,jB,MC,Mr] at t1 u1
 simp only[aQ,aQ.d10,apL,jC,jD,g1,g2,call3,jI,C.I_i,w2,af,q1,aq,aQ.d9,C.L_l,r1,aQ.d8,g3,g4,w3,t1,aQ.d7,u1,aQ.d6]
 rfl
end
end Go.Ev
namespace Go.Ev
structure Ti (f:Fl):Prop where
 z:f.Sz 1000
 n:f.cps.length<=60
 nb:f.bts.length<=12
 ns:f.svs.length<=30
 al:(1<=f.bts.length/\f.svs.length=4)∨f.bts=[]
theorem Ti.set {f:Fl} (T:Ti f) (i:Nat) {c:Cp} (hc:c.Sz 1000):Ti {f with cps:=f.cps.set i c}:=
 ⟨⟨T.z.1,T.z.2.1,by show (f.cps.set i c).length<=1000;rw[MI];have:=T.n;omega,fun x hx=>(Nq hx).elim (T.z.2.2.2 x) fun e=>e▸hc⟩,by show (f.cps.set i c).length<=60;rw[MI];exact T.n,T.nb,T.ns,T.al⟩
theorem Eg:∀(k:Nat) (f:Fl) (s:List Sp),VF f->Ti f->Ti (place k f s).1
 |0,f,s,_,h=>h
 |k+1,f,s,hv,h=>by
  cases hx:rV f with
  |none=>rw[yr hx];exact h
  |some x=>
   obtain ⟨F⟩:=yl hv hx
   simp only[place,hx]
   refine Eg k _ _ (F.valid hv) ?_
   rw[F.put]
   have hc:=h.z.2.2.2 _ (Mq F.hi)
   exact h.set F.i ⟨hc.1,hc.2.1,hc.2.2.1,hc.2.2.2.1,hc.2.2.2.2.1,(h.z.1.2 _ F.hb).1,hc.2.2.2.2.2.2⟩
theorem GN {f:Fl} (h:Ti f):Ti (BO f).1:=by
 unfold BO
 cases hv:bl f with
 |false=>exact ⟨⟨⟨by simp[fl0],fun b h=>by simp[fl0] at h⟩,⟨by simp[fl0],fun b h=>by simp[fl0] at h⟩,by simp[fl0],fun b h=>by simp[fl0] at h⟩,by simp[fl0],by simp[fl0],by simp[fl0],.inr rfl⟩
 |true=>exact Eg 60 f [] (Ky hv) h
theorem Ti.pB {f:Fl} (T:Ti f) {c:Cp} (hc:c.Sz 1000):
  ∃(x:Fl) (code:Int),bV (evL f (Go.Ev.pB c) [] c.lk)=some (evR f (.i code) x.pack [] c.lk x)/\(code=0->Ti x):=by
 have hz:=T.z.up
 obtain ⟨l,h1,h2,h3⟩:=FJ hz hc.up (by have:=T.n;omega)
 have hl:∀x,x∈l->x.Sz 1000:=fun x hx=>(h3 x hx).elim (T.z.2.2.2 x) (fun e=>e▸hc)
 have hx:({f with cps:=l}:Fl).Sz 1048576:=⟨hz.1,hz.2.1,by show l.length<=1048576;have:=T.n;omega,fun x h=>(hl x h).up⟩
 obtain ⟨x,code,g1,g2⟩:=Ck hz (by decide) (by decide) (by simp[Z0,Cp.fl]) hx h1
 refine ⟨x,code,g1,fun h=>?_⟩
 obtain ⟨rfl,q⟩:=g2 h
 have h60:=wH (fB q)
 exact ⟨⟨T.z.1,T.z.2.1,by show l.length<=1000;have:l.length<=60:=h60;omega,hl⟩,h60,T.nb,T.ns,T.al⟩
section
variable {bs:List (List C)} (hb:BY bs) (hl:bs.length<=2000)
include hb hl
abbrev stT (i:Int) (bs:List (List C)) (p:Int) (f:Fl):List C:=[.i i,.l bs,.i p,.b false,.b f.pack]++nl3++cV f
theorem Lu {f:Fl} (T:Ti f) {i:Nat} (hi:i<f.cps.length) {p:Int} (h0:0<=p) (h1:p<=1125899906842624-100):
  ∃(c:Cp) (p':Int),apn 11 aL.d2 (stT i bs p f)=some (.again (stT (i+1:Nat) bs p' {f with cps:=f.cps.set i c}))/\c.Sz 1000/\p<=p'/\p'<=p+10:=by
 have hlc:f.cps.length<big:=by have:=T.n;simp only[big];omega
 have hc:=T.z.2.2.2 _ (Mq hi)
 have e0:(Go.Ev.bs #[]).size<=1000:=by decide
 have r11:((f.cps.map Cp.e).getD i []).getD 11 .nil=.s f.cps[i].at_:=by rw[getD_map' Cp.e hi];rfl
 obtain ⟨x,hx,g1⟩:=ba hb hl h0 (show p<=1125899906842624 by omega) (n:=4) (by omega) (by omega)
 obtain ⟨y,hy,g2⟩:=ba hb hl h0 (show p<=1125899906842624 by omega) (n:=6) (by omega) (by omega)
 obtain ⟨z,hz,g3⟩:=ba hb hl (p:=p+1) (n:=2) (by omega) (by omega) (by omega) (by omega)
 have s0:(f.cps.map Cp.e).set i (aB ((f.cps.map Cp.e).getD i []) 2 [.i x])=(f.cps.set i {f.cps[i] with rank:=x}).map Cp.e:=qf hi rfl
 have s1:(f.cps.map Cp.e).set i (aB ((f.cps.map Cp.e).getD i []) 2 [.i (w64 (2+(y:Int)))])=(f.cps.set i {f.cps[i] with rank:=w64 (2+(y:Int))}).map Cp.e:=qf hi rfl
 obtain ⟨c1,hc1⟩:∃c1:Cp,c1= {f.cps[i] with rank:=w64 (2+(y:Int))}:=⟨_,rfl⟩
 rw[←hc1] at s1
 have hi1:i<(f.cps.set i c1).length:=by rw[MI];exact hi
 have g11:(f.cps.set i c1)[i]=c1:=List.getElem_set_self _
 have s2:((f.cps.set i c1).map Cp.e).set i (aB (((f.cps.set i c1).map Cp.e).getD i []) 6 [.s (Go.Ev.bs #[])])=((f.cps.set i c1).set i {c1 with sel:=Go.Ev.bs #[]}).map Cp.e:=qf hi1 (by rw[g11];rfl)
 obtain ⟨c2,hc2⟩:∃c2:Cp,c2= {c1 with sel:=Go.Ev.bs #[]}:=⟨_,rfl⟩
 rw[←hc2,List.set_set] at s2
 have hi2:i<(f.cps.set i c2).length:=by rw[MI];exact hi
 have g12:(f.cps.set i c2)[i]=c2:=List.getElem_set_self _
 have s3:((f.cps.set i c2).map Cp.e).set i (aB (((f.cps.set i c2).map Cp.e).getD i []) 9 [.s (Go.Ev.bs #[])])=((f.cps.set i c2).set i {c2 with near:=Go.Ev.bs #[]}).map Cp.e:=qf hi2 (by rw[g12];rfl)
 rw[List.set_set] at s3
 simp only[stT,nl3,cV,jA,jB,apL,jC,jD,aL.d2,C.I_i,C.L_l,jW,ltL hi,Mt,jR,jX,jY,r11,C.S_s,g1,g2,call3,jI,s0,s1]
 cases hq:(!(f.cps[i].at_.toList==(Go.Ev.bs #[]).toList)) with
 |true=>
  refine ⟨{f.cps[i] with rank:=x},p+1,?_,hc,by omega,by omega⟩
  simp only[jR,jJ,apL,jC,jD,aL.d1,C.I_i,C.L_l,w1 hi hlc]
 |false=>
  simp only[jS,g3,jI,jC,jD,C.I_i]
  cases hz0:((z:Int)==0) with
  |true=>
   refine ⟨{c2 with near:=Go.Ev.bs #[]},p+1+1,?_,?_,by omega,by omega⟩
   ·simp only[jR,s2,s3,jW,MI,ltL hi,Mt,jJ,apL,jC,jD,aL.d1,C.I_i,C.L_l,w1 hi hlc]
   ·rw[hc2,hc1]
    exact ⟨hc.1,hc.2.1,e0,e0,hc.2.2.2.2.1,hc.2.2.2.2.2⟩
  |false=>
   refine ⟨c1,p+1+1,?_,by rw[hc1];exact hc,by omega,by omega⟩
   simp only[jS,jJ,apL,jC,jD,aL.d1,C.I_i,C.L_l,w1 hi hlc]
theorem LQ:∀(d i:Nat) (f:Fl) (p:Int),Ti f->i+d=f.cps.length->0<=p->p<=1125899906842624-10000+(0-10)*d->
  ∃(f':Fl) (p':Int),lim (apn 11 aL.d2) (stT i bs p f)=some (.brk 0 ([.l bs,.i p',.b false,.b f'.pack]++nl3++cV f'))/\Ti f'/\p<=p'/\p'<=p+10*d:=by
 intro d
 induction d with
 |zero=>
  intro i f p T hd h0 h1
  refine ⟨f,p,aR ?_,T,by omega,by omega⟩
  have:¬((i:Int)<(f.cps.length:Int)):=by omega
  simp only[stT,nl3,cV,jA,jB,apL,jC,jD,aL.d2,C.I_i,C.L_l,jW,this,Mu,jS]
 |succ d ih=>
  intro i f p T hd h0 h1
  obtain ⟨c,p1,e1,e2,e3,e4⟩:=Lu hb hl T (i:=i) (by omega) h0 (by omega)
  obtain ⟨f',p',q1,q2,q3,q4⟩:=ih (i+1) _ p1 (T.set i e2) (by show i+1+d=(f.cps.set i c).length;rw[MI];omega) (by omega) (by omega)
  exact ⟨f',p',by rw[aD e1,q1],q2,by omega,by omega⟩
theorem LD {f:Fl} (T:Ti f) {i:Nat} (hi:i<3) {p:Int} (h0:0<=p) (h1:p<=1125899906842624-30000):
  ∃(x:Fl) (p':Int),apn 11 aL.d4 (stT i bs p f)=some (.again (stT (i+1:Nat) bs p' x))/\Ti x/\p<=p'/\p'<=p+1100:=by
 have w0:w64 (40+(i:Int))=((40+i:Nat):Int):=by rw[aN (by omega) (by omega)];omega
 obtain ⟨c,p1,g1,a1,a2,a3⟩:=Di hb hl (n:=40+i) (by omega) (p:=p) h0 (by omega)
 obtain ⟨x,hx,g2⟩:=ba hb hl (p:=p1) (n:=30) (by omega) (by omega) (by omega) (by omega)
 obtain ⟨y,hy,g3⟩:=ba hb hl (p:=p1+1) (n:=8) (by omega) (by omega) (by omega) (by omega)
 obtain ⟨z,hz,g4⟩:=ba hb hl (p:=p1+1+1) (n:=3) (by omega) (by omega) (by omega) (by omega)
 have e0:(Go.Ev.bs #[]).size<=1000:=by decide
 have hi3:((i:Int)<3):=by omega
 have w3:w64 ((i:Int)+1)=((i+1:Nat):Int):=by rw[aN (by omega) (by omega)];omega
 have key:∀(c':Cp),c'.Sz 1000->∃(x:Fl),apn 23 aL.d3 ([.i i,.l bs,.i (p1+1+1+1),.b false,.b f.pack]++c'.fl++nl3++cV f++[.l c'.lk])=some (.again (stT (i+1:Nat) bs (p1+1+1+1) x))/\Ti x:=fun c' hc'=>by
  obtain ⟨x,code,e1,e2⟩:=T.pB hc'
  simp only[evL,evR,cV,pB,Z0,Cp.fl,Cp.lk,jA,jB] at e1
  have stp:apn 23 aL.d3 ([.i i,.l bs,.i (p1+1+1+1),.b false,.b f.pack]++c'.fl++nl3++cV f++[.l c'.lk])=bif code==0 then some (.again (stT (i+1:Nat) bs (p1+1+1+1) x)) else some (.again (stT (i+1:Nat) bs (p1+1+1+1) f)):=by
   simp only[stT,nl3,cV,Cp.fl,Cp.lk,jA,jB,apL,jC,jD,aL.d3,C.L_l,af,e1,call10,jI,C.I_i,w3]
  cases hq:(code==0) with
  |true=>exact ⟨x,by rw[stp,hq];rfl,e2 (by simpa using hq)⟩
  |false=>exact ⟨f,by rw[stp,hq];rfl,T⟩
 obtain ⟨c1,hc1⟩:∃c1:Cp,c1= {c with rank:=w64 (3+(x:Int)),room:=w64 (2+(y:Int))}:=⟨_,rfl⟩
 obtain ⟨x1,k1,k2⟩:=key {c1 with sel:=Go.Ev.bs #[],near:=Go.Ev.bs #[]} (by rw[hc1];exact ⟨a1.1,a1.2.1,e0,e0,a1.2.2.2.2.1,a1.2.2.2.2.2⟩)
 obtain ⟨x2,k3,k4⟩:=key c1 (by rw[hc1];exact a1)
 have stp:apn 11 aL.d4 (stT i bs p f)=bif decide ((z:Int)>0) then some (.again (stT (i+1:Nat) bs (p1+1+1+1) x1)) else some (.again (stT (i+1:Nat) bs (p1+1+1+1) x2)):=by
  rw[←k1,←k3,hc1]
  simp only[Cp.q] at g1
  simp only[stT,nl3,cV,jA,jB,apL,jC,jD,aL.d4,C.I_i,hi3,Mt,jR,w0,g1,call14,jI,g2,call3,g3,g4,C.L_l]
  cases decide ((z:Int)>0)<;>rfl
 cases hq:decide ((z:Int)>0) with
 |true=>exact ⟨x1,_,by rw[stp,hq];rfl,k2,by omega,by omega⟩
 |false=>exact ⟨x2,_,by rw[stp,hq];rfl,k4,by omega,by omega⟩
theorem LF:∀(d i:Nat) (f:Fl) (p:Int),Ti f->i+d=3->0<=p->p<=1125899906842624-40000+(0-1100)*d->
  ∃(f':Fl) (p':Int),lim (apn 11 aL.d4) (stT i bs p f)=some (.brk 2 ([.l bs,.i p',.b false,.b f'.pack]++nl3++cV f'))/\Ti f'/\p<=p'/\p'<=p+1100*d:=by
 intro d
 induction d with
 |zero=>
  intro i f p T hd h0 h1
  refine ⟨f,p,aR ?_,T,by omega,by omega⟩
  have:¬((i:Int)<3):=by omega
  simp only[stT,nl3,cV,jA,jB,apL,jC,jD,aL.d4,C.I_i,C.L_l,this,Mu,jS]
 |succ d ih=>
  intro i f p T hd h0 h1
  obtain ⟨x,p1,e1,e2,e3,e4⟩:=LD hb hl T (i:=i) (by omega) h0 (by omega)
  obtain ⟨f',p',q1,q2,q3,q4⟩:=ih (i+1) x p1 e2 (by omega) (by omega) (by omega)
  exact ⟨f',p',by rw[aD e1,q1],q2,by omega,by omega⟩
theorem Lt:∀(d i:Nat) (f:Fl) (p:Int),Ti f->i+d=f.svs.length->0<=p->p<=1125899906842624-10000+(0-10)*d->
  ∃(f':Fl) (p':Int),lim (apn 11 aL.d6) (stT i bs p f)=some (.brk 4 ([.l bs,.i p',.b false,.b f'.pack]++nl3++cV f'))/\Ti f'/\p<=p'/\p'<=p+10*d:=by
 intro d
 induction d with
 |zero=>
  intro i f p T hd h0 h1
  refine ⟨f,p,aR ?_,T,by omega,by omega⟩
  have:¬((i:Int)<(f.svs.length:Int)):=by omega
  simp only[stT,nl3,cV,jA,jB,apL,jC,jD,aL.d6,C.I_i,C.L_l,jW,this,Mu,jS]
 |succ d ih=>
  intro i f p T hd h0 h1
  have hi:i<f.svs.length:=by omega
  have hlc:f.svs.length<big:=by have:=T.ns;simp only[big];omega
  obtain ⟨x,hx,g1⟩:=ba hb hl h0 (show p<=1125899906842624 by omega) (n:=6) (by omega) (by omega)
  have r1:((f.svs.map Sv.e).getD i []).getD 1 .nil=.i f.svs[i].spare:=by rw[getD_map' Sv.e hi];rfl
  have s1:(f.svs.map Sv.e).set i (aB ((f.svs.map Sv.e).getD i []) 1 [.i (w64 (f.svs[i].spare+(x:Int)))])=(f.svs.set i {f.svs[i] with spare:=w64 (f.svs[i].spare+(x:Int))}).map Sv.e:=qf hi rfl
  obtain ⟨s',hs'⟩:∃s':Sv,s'= {f.svs[i] with spare:=w64 (f.svs[i].spare+(x:Int))}:=⟨_,rfl⟩
  rw[←hs'] at s1
  have hsz:s'.Sz 1000:=by have h:=T.z.2.1.2 _ (Mq hi);rw[hs'];exact h
  have T':Ti {f with svs:=f.svs.set i s'}:=⟨⟨T.z.1,⟨by show (f.svs.set i s').length<=1000;rw[MI];have:=T.ns;omega,fun y hy=>(Nq hy).elim (T.z.2.1.2 y) fun e=>e▸hsz⟩,T.z.2.2⟩,T.n,T.nb,by show (f.svs.set i s').length<=30;rw[MI];exact T.ns,by
   rcases T.al with ⟨a,b⟩|a
   ·exact .inl ⟨a,by show (f.svs.set i s').length=4;rw[MI];exact b⟩
   ·exact .inr a⟩
  obtain ⟨f',p',q1,q2,q3,q4⟩:=ih (i+1) _ (p+1) T' (by show i+1+d=(f.svs.set i s').length;rw[MI];omega) (by omega) (by omega)
  refine ⟨f',p',?_,q2,by omega,by omega⟩
  rw[←q1]
  apply aD
  simp only[stT,nl3,cV,jA,jB,apL,jC,jD,aL.d6,C.I_i,C.L_l,jW,ltL hi,Mt,jR,jX,jY,r1,g1,call3,jI,s1,w1 hi hlc]
theorem HI {p:Int} (h0:0<=p) (h1:p<=1125899906842624-100000):
  ∃(f:Fl) (p':Int),aL [.l bs,.i p]=some ([C.b f.pack,.l bs,.i p']++cV f)/\Ti f/\p<=p'/\p'<=p+40000:=by
 obtain ⟨bts,svs,pk,f0,p0,g0,D,hbt,hsv,a1,a2⟩:=I0 hb hl h0 (by omega)
 have T0:Ti f0:=⟨D.szD ⟨hbt.1.2,hbt.2⟩ ⟨by omega,hsv.2⟩,D.n,by rw[D.b];exact hbt.1.2,by rw[D.s];omega,.inl ⟨by rw[D.b];exact hbt.1.1,by rw[D.s];exact hsv.1⟩⟩
 have hn0:=T0.n
 obtain ⟨f1,p1,b1,T1,b2,b3⟩:=LQ hb hl f0.cps.length 0 f0 p0 T0 (by omega) (by omega) (by omega)
 obtain ⟨x,hx,g1⟩:=ba hb hl (p:=p1) (n:=3) (by omega) (by omega) (by omega) (by omega)
 have hp:=IA T1.z.up
 obtain ⟨f2,p2,c1,T2,c2,c3⟩:=LF hb hl 3 0 _ (p1+1) (GN T1) (by omega) (by omega) (by omega)
 have fin:∀(g:Fl) (q:Int),Ti g->p<=q->q<=p+39000->∃(f:Fl) (p':Int),aU (apn 10 aL.d8 ([C.l bs,.i q,.b false,.b g.pack]++nl3++cV g))=some ([C.b f.pack,.l bs,.i p']++cV f)/\Ti f/\p<=p'/\p'<=p+40000:=fun g q T q1 q2=>by
  have:=T.ns
  obtain ⟨f',p',d1,T',d2,d3⟩:=Lt hb hl g.svs.length 0 g q T (by omega) (by omega) (by omega)
  refine ⟨f',p',?_,T',by omega,by omega⟩
  simp only[stT,nl3,cV,jA,jB,Mr] at d1⊢
  simp only[apL,jC,jD,aL.d8,C.L_l,d1,aq,aL.d7,jV]
 simp only[stT,nl3,cV,H8,Fl.e,jA,jB,Mr] at g0 b1 c1 hp
 simp only[aL,aL.d10,apL,jC,jD,g0,call6,jI,C.L_l,af,b1,aq,aL.d9,g1,call3,C.I_i]
 cases hq:decide ((x:Int)>0) with
 |true=>
  simp only[jR,hp,call5,jI,jC,jD,C.L_l,c1,aq,apL,aL.d5,jJ]
  exact fin f2 p2 T2 (by omega) (by omega)
 |false=>
  simp only[jS,jJ]
  exact fin f1 (p1+1) T1 (by omega) (by omega)
end
end Go.Ev
namespace Go.Ev
theorem Ku {f:Fl} (hz:f.Sz 1048576) {s:Str} (h:s=Go.Ev.bs #[]∨s=Go.Ev.bs #[103,111,110,101]∨∃k,∃hk:k<f.cps.length,s=f.cps[k].name):s.size<=1048576:=by
 rcases h with rfl|rfl|⟨k,hk,rfl⟩
 ·decide
 ·decide
 ·exact (hz.2.2.2 _ (Mq hk)).1
theorem Kt {f:Fl} (hz:f.Sz 1048576) {s:Str} (h:s=Go.Ev.bs #[]∨s=Go.Ev.bs #[103,111,110,101]∨∃k,∃hk:k<f.bts.length,s=f.bts[k].name):s.size<=1048576:=by
 rcases h with rfl|rfl|⟨k,hk,rfl⟩
 ·decide
 ·decide
 ·exact (hz.1.2 _ (Mq hk)).1
section
variable {bs:List (List C)} (hb:BY bs) (hl:bs.length<=2000)
include hb hl
theorem J9 {f:Fl} (hz:f.Sz 1000) (hb1:f.bts=[]) {p:Int} (h0:0<=p) (h1:p<=1125899906842624-10000):
  ∃(g:Fl) (p':Int),bK (f.e++[.l bs,.i p])=some (spR bs g p')/\g.Sq/\p<=p'/\p'<=p+1000:=by
 have hF:=mD hz.up
 have hcl:=hz.2.2.1
 have hbl:f.bts.length=0:=by rw[hb1];rfl
 have g1:=KY (bs:=bs) (p:=p) (n:=(f.bts.length:Int)) (by omega) (by omega) (by omega)
 have nb:((f.bts.length:Int)==0)=true:=by rw[hbl];rfl
 have hg2:∃n:Int,ae [.i (f.cps.length:Int),.l bs,.i (p+1)]=some [.i n,.l bs,.i (p+1+1)]:=by
  by_cases hc0:f.cps.length=0
  ·exact ⟨_,KY (bs:=bs) (p:=p+1) (n:=(f.cps.length:Int)) (by omega) (by omega) (by omega)⟩
  ·obtain ⟨n,hn,g2⟩:=ba hb hl (p:=p+1) (n:=(f.cps.length:Int)) (by omega) (by omega) (by omega) (by omega)
   exact ⟨n,g2⟩
 obtain ⟨n,g2⟩:=hg2
 refine ⟨⟨false,[],[⟨Go.Ev.bs #[],0⟩],[]⟩,p+1+1,?_,⟨⟨⟨by show 0<=_;decide,fun b hb=>by simp at hb⟩,⟨by show 1<=_;decide,fun s hs=>by rw[MH.1 hs];show (Go.Ev.bs #[]).size<=_;decide⟩,by show 0<=_;decide,fun b hb=>by simp at hb⟩,by show 0<=_;decide⟩,by omega,by omega⟩
 simp only[Fl.e] at hF
 simp only[bK,bK.d5,Fl.e,jA,jB,apL,jC,jD,hF,call4,jI,C.L_l,jW,g1,g2,call3,nb,jZ,jS,jV]
 rfl
theorem De {p:Int} (h0:0<=p) (h1:p<=1125899906842624-200000):
  ∃(f:Fl) (p':Int),nV [.l bs,.i p]=some [.b f.pack,.l (f.cps.map Cp.e),.l bs,.i p',.l (f.bts.map Bt.e),.l (f.svs.map Sv.e)]/\f.Sq/\p<=p'/\p'<=p+50000:=by
 obtain ⟨k,hk,g1⟩:=ba hb hl h0 (show p<=1125899906842624 by omega) (n:=12) (by omega) (by omega)
 simp only[nV,nV.d1,apL,jC,jD,g1,call3,jI,C.I_i]
 cases hq:((k:Int)==0) with
 |true=>
  obtain ⟨f,p',q1,q2,q3,q4⟩:=JT hb hl (p:=p+1) (by omega) (by omega)
  refine ⟨f,p',?_,⟨q2.up,q2.2.2.1⟩,by omega,by omega⟩
  simp only[jR,q1,call6,jI,jC,jD,C.L_l,jV]
 |false=>
  obtain ⟨f,p1,q1,q2,q4,q5⟩:=HI hb hl (p:=p+1) (by omega) (by omega)
  obtain ⟨m,hm,g2⟩:=ba hb hl (p:=p1) (n:=16) (by omega) (by omega) (by omega) (by omega)
  simp only[cV,jA,jB] at q1
  simp only[jS,q1,call6,jI,jC,jD,C.L_l,g2,call3,C.I_i]
  cases hm0:((m:Int)==0) with
  |true=>
   have sp:∃(g:Fl) (p':Int),bK (f.e++[.l bs,.i (p1+1)])=some (spR bs g p')/\g.Sq/\p1+1<=p'/\p'<=p1+1+1000:=by
    rcases q2.al with ⟨a,b⟩|a
    ·exact Ht hb hl q2.z b a (by omega) (by omega)
    ·exact J9 hb hl q2.z a (by omega) (by omega)
   obtain ⟨g,p2,r1,r2,r3,r4⟩:=sp
   simp only[Fl.e,jA,jB] at r1
   refine ⟨g,p2,?_,r2,by omega,by omega⟩
   simp only[jR,r1,spR,call6,jI,jC,jD,C.L_l,jV]
  |false=>
   refine ⟨f,p1+1,?_,⟨q2.z.up,q2.z.2.2.1⟩,by omega,by omega⟩
   simp only[jS,jV]
theorem KO {f:Fl} (hz:f.Sz 1048576):∀(d i:Nat) (L:List Str) (p:Int),i+d=f.cps.length->L.length<=i->(∀s,s∈L->s.size<=1048576)->0<=p->p<=1125899906842624-10000+(0-10)*d->
  ∃(L':List Str) (p':Int),lim (apn 8 fu.d1) ([.i i,.l bs,.i p]++f.e++[.l (L.map sE)])=some (.brk 0 ([.l bs,.i p']++f.e++[.l (L'.map sE)]))/\L'.length<=f.cps.length/\(∀s,s∈L'->s.size<=1048576)/\p<=p'/\p'<=p+10*d:=by
 intro d
 induction d with
 |zero=>
  intro i L p hd hL hs h0 h1
  refine ⟨L,p,aR ?_,by omega,hs,by omega,by omega⟩
  have:¬((i:Int)<(f.cps.length:Int)):=by omega
  simp only[Fl.e,jA,jB,apL,jC,jD,fu.d1,C.I_i,C.L_l,jW,this,Mu,jS]
 |succ d ih=>
  intro i L p hd hL hs h0 h1
  have hi:i<f.cps.length:=by omega
  have hlc:f.cps.length<big:=by have:=hz.2.2.1;simp only[big];omega
  have r11:((f.cps.map Cp.e).getD i []).getD 11 .nil=.s f.cps[i].at_:=by rw[getD_map' Cp.e hi];rfl
  have r0:((f.cps.map Cp.e).getD i []).getD 0 .nil=.s f.cps[i].name:=by rw[getD_map' Cp.e hi];rfl
  obtain ⟨x,hx,g1⟩:=ba hb hl h0 (show p<=1125899906842624 by omega) (n:=3) (by omega) (by omega)
  have hc2:L.length+1<=4294967296:=by have:=hz.2.2.1;omega
  have stp:apn 8 fu.d1 ([.i i,.l bs,.i p]++f.e++[.l (L.map sE)])=bif !(f.cps[i].at_.toList==(Go.Ev.bs #[]).toList) then (bif ((x:Int)==0) then some (.again ([.i (i+1:Nat),.l bs,.i (p+1)]++f.e++[.l ((L++[f.cps[i].name]).map sE)])) else some (.again ([.i (i+1:Nat),.l bs,.i (p+1)]++f.e++[.l (L.map sE)]))) else some (.again ([.i (i+1:Nat),.l bs,.i p]++f.e++[.l (L.map sE)])):=by
   simp only[Fl.e,jA,jB,apL,jC,jD,fu.d1,C.I_i,C.L_l,jW,ltL hi,Mt,jR,jX,jY,r11,r0,C.S_s,g1,call3,jI,rows,Mn,Mo,My,hc2,w1 hi hlc,MZ,MD,MC,sE]
  cases hq:(!(f.cps[i].at_.toList==(Go.Ev.bs #[]).toList)) with
  |false=>
   obtain ⟨L',p',q1,q2,q3,q4,q5⟩:=ih (i+1) L p (by omega) (by omega) hs h0 (by omega)
   exact ⟨L',p',by rw[aD (by rw[stp,hq];rfl),q1],q2,q3,by omega,by omega⟩
  |true=>
   cases hx0:((x:Int)==0) with
   |true=>
    obtain ⟨L',p',q1,q2,q3,q4,q5⟩:=ih (i+1) (L++[f.cps[i].name]) (p+1) (by omega) (by simp;omega) (fun s h=>by
     rcases MO.1 h with h|h
     ·exact hs s h
     ·rw[MH.1 h];exact (hz.2.2.2 _ (Mq hi)).1) (by omega) (by omega)
    exact ⟨L',p',by rw[aD (by rw[stp,hq,hx0];rfl),q1],q2,q3,by omega,by omega⟩
   |false=>
    obtain ⟨L',p',q1,q2,q3,q4,q5⟩:=ih (i+1) L (p+1) (by omega) (by omega) hs (by omega) (by omega)
    exact ⟨L',p',by rw[aD (by rw[stp,hq,hx0];rfl),q1],q2,q3,by omega,by omega⟩
theorem JB {f:Fl} (hq:f.Sq) {p:Int} (h0:0<=p) (h1:p<=1125899906842624-30000):
  ∃(g:List Str) (p':Int),fu (f.e++[.l bs,.i p])=some [.l bs,.i p',.l (g.map sE)]/\yu 1048576 g/\p<=p'/\p'<=p+20000:=by
 have hz:=hq.1
 have h1000:=hq.2
 obtain ⟨L,p1,q1,q2,q3,q4,q5⟩:=KO hb hl hz f.cps.length 0 [] p (by omega) (by simp) (fun s h=>by simp at h) h0 (by omega)
 obtain ⟨x,hx,g1⟩:=ba hb hl (p:=p1) (n:=12) (by omega) (by omega) (by omega) (by omega)
 obtain ⟨s,p2,g2,s1,s2,s3⟩:=Gd hb hl f (by omega) (p:=p1+1) (by omega) (by omega)
 have hc2:L.length+1<=4294967296:=by omega
 simp only[Fl.e,jA,jB,Mr,MC] at q1 g2
 simp only[fu,fu.d3,Fl.e,jA,jB,apL,jC,jD,af,q1,aq,fu.d2,g1,call3,jI,C.I_i,C.L_l,jW,g2,rows,Mn,Mo,My,hc2,Mt,jR]
 cases hx0:((x:Int)==0) with
 |true=>
  refine ⟨L++[s],p2,?_,⟨by simp;omega,fun y h=>?_⟩,by omega,by omega⟩
  ·simp only[jR,jV,MZ,MD,MC,sE]
  ·rcases MO.1 h with h|h
   ·exact q3 y h
   ·rw[MH.1 h];exact Ku hz s1
 |false=>
  have same:∃(g:List Str) (p':Int),some [C.l bs,.i (p1+1),.l (L.map sE)]=some [C.l bs,.i p',.l (g.map sE)]/\yu 1048576 g/\p<=p'/\p'<=p+20000:=⟨L,p1+1,rfl,⟨by omega,q3⟩,by omega,by omega⟩
  cases hx1:((x:Int)==1) with
  |false=>simp only[jS,jV];exact same
  |true=>
   simp only[jR,jS]
   by_cases hL:L.length<=1
   ·have:¬((L.length:Int)>1):=by omega
    simp only[this,Mu,jS,jV];exact same
   ·match L,hL with
    |a::b::r,_=>
     have t1:(((a::b::r).length:Nat):Int)>1:=by simp only[Mn];omega
     have t2:(0:Int)<(((a::b::r).length:Nat):Int):=by omega
     have t3:(1:Int)<(((a::b::r).length:Nat):Int):=by omega
     refine ⟨b::a::r,p1+1,?_,⟨by simp only[Mn] at q2⊢;omega,fun y h=>q3 y (by simp only[Mw] at h⊢;rcases h with h|h|h<;>simp[h])⟩,by omega,by omega⟩
     have t4:(1:Int)<(((List.set (sE a::sE b::r.map sE) 0 (aB ((sE a::sE b::r.map sE).getD 0 []) 0 [((sE a::sE b::r.map sE).getD 1 []).getD 0 .nil])).length:Nat):Int):=by rw[MI];simp only[Mn];omega
     simp only[t1,t2,t3,Mt,jR,MD,t4,jV]
     rfl
    |[_],h=>simp at h
    |[],h=>simp at h
end
end Go.Ev
namespace Go.Ev
section
variable {f:Fl} {s:Sp} (hz:f.Sz 1048576) (hs:s.Sz 1048576)
include hz hs
end
end Go.Ev
namespace Go.Ev
structure Evn where
 kd:Int
 b:Bt
 c:Cp
 nm:Str
 at_:Str
def Evn.e (e:Evn):List C:=.i e.kd::(e.b.e++e.c.e++[.s e.nm,.s e.at_])
def Evn.Sz (K:Nat) (e:Evn):Prop:=e.b.Sz K/\e.c.Sz K/\e.nm.size<=K/\e.at_.size<=K
section
variable {α:Type} (nm:α->Str) (x:α)
variable {l:List α} (hs:∀(i j:Nat) (hi:i<l.length) (hj:j<l.length),i<j->sLt (nm l[i]) (nm l[j])=true)
include hs
omit hs in
omit hs in
end
section
variable {f:Fl} (hz:f.Sz 1048576) (hv:bl f=true)
include hz hv
end
end Go.Ev
namespace Go.Ev
section
variable {f:Fl} (hz:f.Sz 1048576) (hv:bl f=true)
include hz hv
end
end Go.Ev
namespace Go.Ev
section
variable {f:Fl} (hz:f.Sz 1048576) (hv:bl f=true)
include hz
include hv
omit hv in
end
end Go.Ev
namespace Go.Ev
end Go.Ev
namespace Go.Ev
section
variable {bs:List (List C)} (hb:BY bs) (hl:bs.length<=2000)
include hb hl
end
end Go.Ev
namespace Go.Ev
def Evn.q (e:Evn) (bs:List (List C)) (p:Int):List C:=[.i e.kd,.s e.b.name,.s e.b.zone,.i e.b.room,.i e.b.hold,.b e.b.shut,.s e.c.name,.s e.c.svc,.i e.c.rank,.i e.c.born,.i e.c.room,.i e.c.hold,.s e.c.sel,.i e.c.apart,.s e.c.near,.s e.c.fixed,.s e.c.at_,.s e.nm,.s e.at_,.l bs,.i p,.l (e.b.marks.map sE),.l (e.c.likes.map Lk.e)]
def Evn.o (e:Evn):List C:=[.i e.kd,.s e.b.name,.s e.b.zone,.i e.b.room,.i e.b.hold,.b e.b.shut,.s e.c.name,.s e.c.svc,.i e.c.rank,.i e.c.born,.i e.c.room,.i e.c.hold,.s e.c.sel,.i e.c.apart,.s e.c.near,.s e.c.fixed,.s e.c.at_,.s e.nm,.s e.at_,.l (e.b.marks.map sE),.l (e.c.likes.map Lk.e)]
section
variable {bs:List (List C)} (hb:BY bs) (hl:bs.length<=2000) {f:Fl} (hz:f.Sz 1048576)
include hb hl hz
end
end Go.Ev
namespace Go.Ev
def UpC (l:List Cp):Prop:=∀(i j:Nat) (hi:i<l.length) (hj:j<l.length),i<j->sLt l[i].name l[j].name=true
theorem UpC.ne {l:List Cp} (h:UpC l) {i j:Nat} (hi:i<l.length) (hj:j<l.length) (hn:i≠j):l[i].name≠l[j].name:=fun he=>by
 rcases Nat.lt_or_gt_of_ne hn with h1|h1
 ·have:=h i j hi hj h1;rw[he,tV] at this;cases this
 ·have:=h j i hj hi h1;rw[he,tV] at this;cases this
theorem UpC.oth {l:List Cp} (h:UpC l) {k:Nat} (hk:k<l.length) {nm:Str} (he:l[k].name=nm) (y:Cp):(∃i,∃hi:i<l.length,i≠k/\l[i]=y)↔y∈l/\y.name≠nm:=by
 constructor
 ·rintro ⟨i,hi,hn,rfl⟩
  exact ⟨Mq hi,he▸h.ne hi hk hn⟩
 ·rintro ⟨hm,hn⟩
  obtain ⟨i,hi,rfl⟩:=List.getElem_of_mem hm
  exact ⟨i,hi,fun e=>hn (by subst e;exact he),rfl⟩
end Go.Ev
namespace Go.Ev
end Go.Ev
namespace Go.Ev
theorem r8:∀a:List Int,gH ltI a a=0
 |[]=>rfl
 |x::a=>by
  have:=r8 a
  simp only[gH,show ltI x x=false by simp[ltI],jS,this]
theorem y9:∀a b c:List Int,gH ltI a b<=0->gH ltI b c<=0->gH ltI a c<=0
 |[],_,[],_,_=>by simp[gH]
 |[],_,_::_,_,_=>by simp[gH]
 |_::_,[],_,h,_=>absurd h (by simp[gH])
 |_::_,_::_,[],_,h=>absurd h (by simp[gH])
 |x::a,y::b,z::c,h1,h2=>by
  have ih:=y9 a b c
  simp only[gH,ltI,Bool.cond_decide] at h1 h2⊢
  split at h1
  ·split at h2
   ·rw[if_pos (by omega)];omega
   ·split at h2
    ·omega
    ·rw[if_pos (by omega)];omega
  ·split at h1
   ·omega
   ·split at h2
    ·rw[if_pos (by omega)];omega
    ·split at h2
     ·omega
     ·rw[if_neg (by omega),if_neg (by omega)];exact ih h1 h2
theorem CZ (f:Fl) (c:Cp) (b:Bt):∀k j,j<k->qw f c b (mc f c b j)=true->∃best,vic f c b k=some best/\gH ltI (dC f best) (dC f (mc f c b j))<=0
 |0,j,h,_=>by omega
 |k+1,j,h,hm=>by
  have ih:=CZ f c b k
  simp only[vic,pj]
  cases hv:vic f c b k with
  |none=>
   simp only[jS]
   rcases Nat.lt_or_ge j k with hj|hj
   ·obtain ⟨best,h1,-⟩:=ih j hj hm
    rw[hv] at h1;cases h1
   ·obtain rfl:j=k:=by omega
    rw[hm]
    exact ⟨_,rfl,by rw[r8];omega⟩
  |some best=>
   simp only
   cases hw:uY f (mc f c b k) best with
   |true=>
    simp only[jR]
    refine ⟨best,rfl,?_⟩
    rcases Nat.lt_or_ge j k with hj|hj
    ·obtain ⟨b',h1,h2⟩:=ih j hj hm
     rw[hv] at h1;cases h1;exact h2
    ·obtain rfl:j=k:=by omega
     rw[rb tR]
     simp only[uY,MX,Mk,Ms,MY] at hw
     omega
   |false=>
    simp only[jS]
    have hn:¬0<gH ltI (dC f (mc f c b k)) (dC f best):=by
     simp only[uY,Bool.or_eq_false_iff,decide_eq_false_iff_not] at hw
     exact hw.1
    cases hk:qw f c b (mc f c b k) with
    |true=>
     refine ⟨_,rfl,?_⟩
     rcases Nat.lt_or_ge j k with hj|hj
     ·obtain ⟨b',h1,h2⟩:=ih j hj hm
      rw[hv] at h1;cases h1
      exact y9 _ _ _ (by omega) h2
     ·obtain rfl:j=k:=by omega
      rw[r8];omega
    |false=>
     refine ⟨best,rfl,?_⟩
     rcases Nat.lt_or_ge j k with hj|hj
     ·obtain ⟨b',h1,h2⟩:=ih j hj hm
      rw[hv] at h1;cases h1;exact h2
     ·obtain rfl:j=k:=by omega
      rw[hk] at hm;cases hm
theorem Gf (f:Fl) (c:Cp) (b:Bt):∀k l,vic f c b k=some l->qw f c b l=true/\∃j,l=mc f c b j
 |0,l,h=>by simp[vic] at h
 |k+1,l,h=>by
  have ih:=Gf f c b k
  simp only[vic,pj] at h
  cases hv:vic f c b k with
  |none=>
   rw[hv] at h
   simp only[jS] at h
   cases hk:qw f c b (mc f c b k) with
   |true=>rw[hk,jR] at h;cases h;exact ⟨hk,k,rfl⟩
   |false=>rw[hk,jS] at h;cases h
  |some best=>
   rw[hv] at h ih
   simp only at h
   cases hw:uY f (mc f c b k) best with
   |true=>rw[hw,jR] at h;exact ih l h
   |false=>
    rw[hw,jS] at h
    cases hk:qw f c b (mc f c b k) with
    |true=>rw[hk,jR] at h;cases h;exact ⟨hk,k,rfl⟩
    |false=>rw[hk,jS] at h;exact ih l h
def nC (Q:Nat->Bool) (l:List Cp):Nat->List Cp
 |0=>[]
 |i+1=>match l[i]? with
  |some d=>bif Q i then nC Q l i++[d] else nC Q l i
  |none=>nC Q l i
theorem Be (Q:Nat->Bool) {l:List Cp} {i:Nat} (h:i<l.length):nC Q l (i+1)=bif Q i then nC Q l i++[l[i]] else nC Q l i:=by
 simp[nC,h]
theorem vp {Q:Nat->Bool} {l:List Cp} {x:Cp}:∀ {i:Nat},x∈nC Q l i->x∈l
 |0,h=>by simp[nC] at h
 |i+1,h=>by
  simp only[nC] at h
  cases hl:l[i]? with
  |none=>rw[hl] at h;exact vp h
  |some d=>
   rw[hl] at h
   simp only at h
   cases hb:Q i with
   |false=>rw[hb] at h;exact vp h
   |true=>
    rw[hb,jR] at h
    rcases MO.1 h with h|h
    ·exact vp h
    ·rw[MH] at h
     rw[h];exact M8 hl
theorem yB (Q:Nat->Bool) (l:List Cp):∀i,(nC Q l i).length<=i
 |0=>Mp _
 |i+1=>by
  have ih:=yB Q l i
  simp only[nC]
  split
  ·cases Q i<;>simp<;>omega
  ·omega
theorem sS {A B:List Cp} {s t:Nat}:∀n,n<=A.length->(∀j,j<n->kp t j=kp s j)->iC (A++B) t n=iC A s n
 |0,_,_=>rfl
 |n+1,h,hb=>by
  have ih:=sS (A:=A) (B:=B) (s:=s) (t:=t) n (by omega) fun j hj=>hb j (by omega)
  simp only[iC,ih,hb n (by omega),MV (show n<A.length by omega)]
theorem BK (s n j:Nat) (hs:s<2^n):(j<n->kp (s+2^n) j=kp s j)/\kp (s+2^n) n=true/\kp s n=false:=by
 refine ⟨fun h=>?_,?_,?_⟩
 ·obtain ⟨d,rfl⟩:∃d,n=j+d+1:=⟨n-j-1,by omega⟩
  unfold kp
  have e:(2:Nat)^(j+d+1)=2^j*(2^d*2):=by rw[Nat.pow_succ,Nat.pow_add,Nat.mul_assoc]
  rw[e,Nat.add_mul_div_left _ _ (Nat.two_pow_pos j),Nat.add_mul_mod_self_right]
 ·unfold kp
  rw[Nat.add_div_right _ (Nat.two_pow_pos n),Nat.div_eq_of_lt hs];rfl
 ·unfold kp
  rw[Nat.div_eq_of_lt hs];rfl
theorem FM (Q:Nat->Bool) (f:Fl) (c:Cp) (b:Bt) (hQ:∀i (hi:i<f.cps.length),Q i=true->gR c b f.cps[i]=true):
  ∀i,i<=f.cps.length->∃s,s<2^((f.cps.take i).filter (gR c b)).length/\iC ((f.cps.take i).filter (gR c b)) s ((f.cps.take i).filter (gR c b)).length=nC Q f.cps i
 |0,_=>⟨0,by simp,by simp[iC,nC]⟩
 |i+1,h=>by
  obtain ⟨s,h1,h2⟩:=FM Q f c b hQ i (by omega)
  have hi:i<f.cps.length:=by omega
  rw[sU f c b hi,Be Q hi]
  generalize (f.cps.take i).filter (gR c b)=L at h1 h2⊢
  cases hc:gR c b f.cps[i] with
  |false=>
   have:Q i=false:=by
    cases hq:Q i with
    |false=>rfl
    |true=>rw[hQ i hi hq] at hc;cases hc
   simp only[this,jS]
   exact ⟨s,h1,h2⟩
  |true=>
   simp only[jR,MP,List.length_singleton]
   have hx:L.length<(L++[f.cps[i]]).length:=by simp
   have hg:(L++[f.cps[i]])[L.length]=f.cps[i]:=by simp
   cases hq:Q i with
   |false=>
    refine ⟨s,by rw[Nat.pow_succ];omega,?_⟩
    rw[sm s hx,(BK s L.length 0 h1).2.2,jS,jS,sS L.length (Mp _) fun _ _=>rfl]
    exact h2
   |true=>
    refine ⟨s+2^L.length,by rw[Nat.pow_succ];omega,?_⟩
    rw[sm _ hx,(BK s L.length 0 h1).2.1,jR,jR,hg,sS L.length (Mp _) fun j hj=>(BK s L.length j h1).1 hj,h2]
theorem GO {f:Fl} {c:Cp} {b:Bt} (Q:Nat->Bool) (hQ:∀i (hi:i<f.cps.length),Q i=true->gR c b f.cps[i]=true) (hm:qw f c b ((nC Q f.cps f.cps.length).map Cp.name)=true):
  ∃best,kn f c b=some best/\¬gH ltI (dC f ((nC Q f.cps f.cps.length).map Cp.name)) (dC f best)<0:=by
 obtain ⟨s,h1,h2⟩:=FM Q f c b hQ f.cps.length (Mp _)
 rw[Na] at h1 h2
 have e:mc f c b s=(nC Q f.cps f.cps.length).map Cp.name:=by rw[←h2];rfl
 rw[←e] at hm⊢
 obtain ⟨best,h3,h4⟩:=CZ f c b _ s h1 hm
 refine ⟨best,h3,?_⟩
 rw[rb tR]
 omega
theorem Lj {f:Fl} {cn bn:Str} {G:List Str} (h:(doR f ⟨cn,bn,G⟩).2=true):∃(c:Cp) (b:Bt) (k:Nat) (hk:k<f.cps.length),cIx f cn=(k:Nat)/\f.cps[k]=c/\b.name=bn/\bl f=true/\qw f c b G=true/\cG f cn bn=kn f c b:=by
 unfold doR at h
 rcases qK f cn with hc|⟨k,hk,hc,-⟩
 ·exfalso
  have:decide (0<=cIx f cn)=false:=by simp;omega
  revert h
  split
  ·rw[this];simp
  ·simp
 rcases pA f bn with hb|⟨m,hm,hb,hn⟩
 ·exfalso
  have:decide (0<=bIx f bn)=false:=by simp;omega
  revert h
  split
  ·rw[this];simp
  ·simp
 refine ⟨f.cps[k],f.bts[m],k,hk,hc,rfl,(dc _ _).1 hn,?_⟩
 simp only[hc,hb,jY,Mg hk,Mg hm,jX,Mt,Mx] at h
 have hx:(bl f&&(sEq f.cps[k].at_ (mkS [])&&(mg f G&&(aA (u0 f ⟨cn,bn,G⟩) 0 G.length&&(eL (goF f G) f.cps[k] f.bts[m] false==0)))))=true:=by
  revert h
  cases (bl f&&(sEq f.cps[k].at_ (mkS [])&&(mg f G&&(aA (u0 f ⟨cn,bn,G⟩) 0 G.length&&(eL (goF f G) f.cps[k] f.bts[m] false==0)))))<;>simp
 simp only[Mk] at hx
 refine ⟨hx.1,by rw[qw,hx.2.2.1,hx.2.2.2.2];rfl,?_⟩
 simp only[cG,hc,hb,jY,Mg hk,Mg hm,jX,Mt,Mx,hx.1,hx.2.1,jR]
theorem DX {f:Fl} {cn bn:Str} {G:List Str} (h:cG f cn bn=some G):(doR f ⟨cn,bn,G⟩).2=true/\bl f=true/\mg f G=true/\iL f G:=by
 unfold cG at h
 rcases qK f cn with hc|⟨k,hk,hc,-⟩
 ·exfalso
  have:decide (0<=cIx f cn)=false:=by simp;omega
  revert h
  split
  ·rw[this];simp
  ·simp
 rcases pA f bn with hb|⟨m,hm,hb,hn⟩
 ·exfalso
  have:decide (0<=bIx f bn)=false:=by simp;omega
  revert h
  split
  ·rw[this];simp
  ·simp
 simp only[hc,hb,jY,Mg hk,Mg hm,jX,Mt,Mx] at h
 cases hv:bl f with
 |false=>rw[hv] at h;simp at h
 |true=>
  cases hw:sEq f.cps[k].at_ (mkS []) with
  |false=>rw[hv,hw] at h;simp at h
  |true=>
   rw[hv,hw] at h
   simp only[Mx,jR] at h
   obtain ⟨h1,j,rfl⟩:=Gf f _ _ _ _ h
   simp only[qw,Mk] at h1
   refine ⟨?_,rfl,h1.1,sc f _ _ j⟩
   have hu:=nW hv
   have hf:aA (u0 f ⟨cn,bn,mc f f.cps[k] f.bts[m] j⟩) 0 (mc f f.cps[k] f.bts[m] j).length=true:=(cj _ _ _).2 fun i _ hi=>by
    have hi':i<(mc f f.cps[k] f.bts[m] j).length:=by omega
    have key:∀nm,nm∈mc f f.cps[k] f.bts[m] j->∃d,d∈iC (eD f f.cps[k] f.bts[m]) j (eD f f.cps[k] f.bts[m]).length/\d.name=nm:=fun nm h=>by rw[mc,MT] at h;exact h
    obtain ⟨d,hd,he⟩:=key _ (Mq hi')
    have hd2:=List.mem_filter.1 (show d∈f.cps.filter (gR f.cps[k] f.bts[m]) from o0 hd)
    obtain ⟨q,hq,h4,h5⟩:=rH hu hd2.1
    simp only[u0]
    rw[eu hi']
    rw[←he,h4,jY,Mg hq]
    simp only[h5]
    have h6:=hd2.2
    simp only[gR,Mk] at h6
    rw[←(dc _ _).1 hn];exact h6.1
   unfold doR
   simp only[hc,hb,jY,Mg hk,Mg hm,jX,Mt,Mx,hv,hw,h1.1,h1.2,hf,jR]
theorem pT {f:Fl} (hv:bl f=true) {G:List Str} (h:iL f G):l9 f G=dC f G:=by
 simp only[l9,hv,h.there (nW hv),Mx,jR,dC]
theorem GH (Q:Nat->Bool) (f:Fl):iL f ((nC Q f.cps f.cps.length).map Cp.name):=by
 refine ⟨by rw[jW];exact yB _ _ _,fun s hs=>?_⟩
 obtain ⟨d,hd,rfl⟩:=MT.1 hs
 exact ⟨d,vp hd,rfl⟩
end Go.Ev
namespace Go.Ev
theorem Hc (f:Fl):(qb f).length<=f.cps.length:=by
 unfold qb
 cases bl f
 ·simp
 ·rw[jR,jW,(pY f).length_eq];exact Np _ _
theorem HQ {f:Fl} (hz:f.Sz 1048576):∀s,s∈qb f->s.size<=1048576:=by
 intro s hs
 unfold qb at hs
 cases hv:bl f with
 |false=>rw[hv] at hs;simp at hs
 |true=>
  rw[hv,jR,MT] at hs
  obtain ⟨c,hc,rfl⟩:=hs
  exact (hz.2.2.2 _ (wz hc).1).1
theorem yw {A:List (List C)} (hA:BY A):∃(f:Fl) (cn bn:Str),bW [.l A]=some (f.e++[.s cn,.s bn])/\f.Sz 1048576/\cn.size<=1048576/\bn.size<=1048576:=by
 obtain ⟨bs,g0,hb,hl⟩:=BZ hA
 obtain ⟨f,p1,g1,hq,a1,a2⟩:=De hb hl (p:=0) (by omega) (by omega)
 have hz:=hq.1
 have hQ:=xx hz
 have hL:=Hc f
 have h1000:=hq.2
 have qs:=HQ hz
 generalize qb f=L at hQ hL qs
 have key:∀(fl:Bool) (q:Int),0<=q->q<=1000000->(fl=true->0<L.length)->∃cn bn:Str,apn 12 bW.d1 [.b fl,.b false,.l bs,.i q,.b f.pack,.l (f.bts.map Bt.e),.l (f.svs.map Sv.e),.l (f.cps.map Cp.e),.l (L.map sE),.l af,.l af,.l af]=some (.ret (f.e++[.s cn,.s bn]))/\cn.size<=1048576/\bn.size<=1048576:=fun fl q q0 q1 hf=>by
  cases fl with
  |true=>
   have h0:=hf rfl
   obtain ⟨x,hx,g3⟩:=ba hb hl q0 (show q<=1125899906842624 by omega) (n:=(L.length:Int)) (by omega) (by omega)
   obtain ⟨t,p3,g4,n4,a3,a4⟩:=DN hb hl f hz.1.1 (p:=q+1) (by omega) (by omega)
   have hx':x<L.length:=by omega
   refine ⟨L[x],t,?_,qs _ (Mq hx'),Kt hz n4⟩
   simp only[Fl.e,jA,jB] at g4⊢
   simp only[bW.d1,apL,jC,jD,C.B_b,C.L_l,C.I_i,jW,jR,g3,g4,call3,jI,jX,Mt,ltL hx',jY,getD_map' sE hx',sE]
  |false=>
   obtain ⟨s,p2,g3,n3,a5,a6⟩:=Gd hb hl f hz.2.2.1 q0 (by omega)
   obtain ⟨t,p3,g4,n4,a3,a4⟩:=DN hb hl f hz.1.1 (p:=p2) (by omega) (by omega)
   refine ⟨s,t,?_,Ku hz n3,Kt hz n4⟩
   simp only[Fl.e,jA,jB] at g3 g4⊢
   simp only[bW.d1,apL,jC,jD,C.B_b,jS,g3,g4,call3,jI]
 obtain ⟨x,hx,g2⟩:=ba hb hl (p:=p1) (n:=8) (by omega) (by omega) (by omega) (by omega)
 simp only[Fl.e] at hQ
 simp only[bW,bW.d2,apL,jC,jD,g0,g1,hQ,g2,call2,call6,ad,call3,jI,C.L_l,C.I_i,jW]
 by_cases h0:(L.length:Int)>0
 ·obtain ⟨cn,bn,k1,k2,k3⟩:=key (decide ((x:Int)>0)) (p1+1) (by omega) (by omega) (fun _=>by omega)
  refine ⟨f,cn,bn,?_,hz,k2,k3⟩
  simp only[h0,Mt,jR,jJ,k1,jV]
 ·obtain ⟨cn,bn,k1,k2,k3⟩:=key false p1 (by omega) (by omega) (fun h=>by cases h)
  refine ⟨f,cn,bn,?_,hz,k2,k3⟩
  simp only[h0,Mu,jS,jJ,k1,jV]
theorem uR {A:List (List C)} (hA:BY A):∃(f:Fl) (g:List Str),ep [.l A]=some (f.e++[.l (g.map sE)])/\f.Sz 1048576/\yu 1048576 g:=by
 obtain ⟨bs,g0,hb,hl⟩:=BZ hA
 obtain ⟨f,p1,g1,hq,a1,a2⟩:=De hb hl (p:=0) (by omega) (by omega)
 obtain ⟨g,p2,g2,n2,a3,a4⟩:=JB hb hl hq (p:=p1) (by omega) (by omega)
 refine ⟨f,g,?_,hq.1,n2⟩
 simp only[Fl.e,jA,jB] at g2⊢
 simp only[ep,ep.d1,apL,jC,jD,g0,g1,g2,call2,call6,call3,jI,C.L_l,jV]
section
variable {bs:List (List C)} (hb:BY bs) (hl:bs.length<=2000)
include hb hl
theorem CC:∀(n:Nat) (xs ys:List Int) (p:Int),xs.length+n<=100->ys.length+n<=100->0<=p->p<=10000+(0-3)*n->
  ∃(xs' ys':List Int) (p':Int),lim (apn 5 bG.d1) [.i n,.l bs,.i p,.l (xs.map iE),.l (ys.map iE)]=some (.brk 0 [.l bs,.i p',.l (xs'.map iE),.l (ys'.map iE)])/\xs'.length<=100/\ys'.length<=100/\0<=p'/\p'<=20000:=by
 intro n
 induction n with
 |zero=>intro xs ys p h1 h2 h3 h4;exact ⟨xs,ys,p,aR (by simp[bG.d1]),by omega,by omega,by omega,by omega⟩
 |succ n CC=>
  intro xs ys p h1 h2 h3 h4
  obtain ⟨x,hx,g1⟩:=ba hb hl h3 (show p<=1125899906842624 by omega) (n:=3) (by omega) (by omega)
  obtain ⟨y,hy,g2⟩:=ba hb hl (p:=p+1) (n:=3) (by omega) (by omega) (by omega) (by omega)
  obtain ⟨z,hz,g3⟩:=ba hb hl (p:=p+1+1) (n:=3) (by omega) (by omega) (by omega) (by omega)
  have c0:(((n+1:Nat):Int))>0:=by omega
  have c1:xs.length+1<=4294967296:=by omega
  have c2:ys.length+1<=4294967296:=by omega
  have c3:w64 (((n+1:Nat):Int)-1)=((n:Nat):Int):=by rw[aN (by omega) (by omega)];omega
  have mp:∀(l:List Int) (k:Int),l.map iE++rows [[C.i k]]=(l++[k]).map iE:=fun l k=>by simp[rows,iE]
  have rl:∀k:Int,(rows [[C.i k]]).length=1:=fun k=>rfl
  have stp:apn 5 bG.d1 [.i (n+1:Nat),.l bs,.i p,.l (xs.map iE),.l (ys.map iE)]=bif decide ((y:Int)>0) then some (.again [.i (n:Nat),.l bs,.i (p+1+1),.l ((xs++[(x:Int)]).map iE),.l ((ys++[(x:Int)]).map iE)]) else some (.again [.i (n:Nat),.l bs,.i (p+1+1+1),.l ((xs++[(x:Int)]).map iE),.l ((ys++[(z:Int)]).map iE)]):=by
   simp only[apL,jC,jD,bG.d1,C.I_i,C.L_l,c0,Mt,jR,g1,g2,g3,call3,jI,jW,rl,c1,c2,c3,mp]
  cases hd:decide ((y:Int)>0) with
  |true=>
   obtain ⟨xs',ys',p',q1,q2⟩:=CC (xs++[(x:Int)]) (ys++[(x:Int)]) (p+1+1) (by simp;omega) (by simp;omega) (by omega) (by omega)
   exact ⟨xs',ys',p',by rw[aD (by rw[stp,hd];rfl),q1],q2⟩
  |false=>
   obtain ⟨xs',ys',p',q1,q2⟩:=CC (xs++[(x:Int)]) (ys++[(z:Int)]) (p+1+1+1) (by simp;omega) (by simp;omega) (by omega) (by omega)
   exact ⟨xs',ys',p',by rw[aD (by rw[stp,hd];rfl),q1],q2⟩
end
theorem D8 {A:List (List C)} (hA:BY A):∃xs ys:List Int,bG [.l A]=some [.l (xs.map iE),.l (ys.map iE)]/\xs.length<=1000/\ys.length<=1000:=by
 obtain ⟨bs,g0,hb,hl⟩:=BZ hA
 obtain ⟨n,hn,g1⟩:=ba hb hl (p:=0) (n:=4) (by omega) (by omega) (by omega) (by omega)
 obtain ⟨xs,ys,p,g2,l1,l2,p0,p1⟩:=CC hb hl n [] [] (0+1) (by simp;omega) (by simp;omega) (by omega) (by omega)
 obtain ⟨x,hx,g3⟩:=ba hb hl (p:=p) (n:=2) (by omega) (by omega) (by omega) (by omega)
 obtain ⟨y,hy,g4⟩:=ba hb hl (p:=p+1) (n:=3) (by omega) (by omega) (by omega) (by omega)
 have c1:xs.length+1<=4294967296:=by omega
 have rl:∀k:Int,(rows [[C.i k]]).length=1:=fun k=>rfl
 have mp:∀(l:List Int) (k:Int),l.map iE++rows [[C.i k]]=(l++[k]).map iE:=fun l k=>by simp[rows,iE]
 simp only[MC] at g2
 simp only[bG,bG.d3,bG.d2,apL,jC,jD,g0,g1,af,call2,call3,jI,C.I_i]
 rw[g2]
 simp only[aq,apL,jC,jD,bG.d2,g3,g4,call3,jI,C.I_i,C.L_l,jW,rl,c1,Mt,jR,mp]
 cases ((x:Int)==0) with
 |true=>exact ⟨xs++[(y:Int)],ys,rfl,by simp;omega,by omega⟩
 |false=>exact ⟨xs,ys,rfl,by omega,by omega⟩
end Go.Ev
namespace Go.Ev
def Qh (f:Fl) (bn:Str) (oth:List Str) (M:List (List C)) (i:Nat):Bool:=match f.cps[i]? with
 |some x=>sEq x.at_ bn&&(!sEq x.at_ (mkS [])&&((oth.any fun y=>sEq y x.name)||(decide ((i:Int)<(M.length:Int))&&((((M.getD i []).getD 0 .nil).I).tmod 2==0))))
 |none=>false
def xD (f:Fl) (c:Cp) (Q:Nat->Bool):Nat->Bool
 |0=>true
 |i+1=>match f.cps[i]? with
  |some x=>bif Q i then (bif xD f c Q i then decide (x.rank<c.rank) else false) else xD f c Q i
  |none=>xD f c Q i
theorem zT {f:Fl} {c:Cp} {Q:Nat->Bool}:∀n,n<=f.cps.length->xD f c Q n=true->∀i (hi:i<n) (hl:i<f.cps.length),Q i=true->f.cps[i].rank<c.rank
 |0,_,_,i,hi,_,_=>by omega
 |n+1,hn,h,i,hi,hl,hq=>by
  simp only[xD,Mg (show n<f.cps.length by omega)] at h
  cases hQ:Q n with
  |false=>
   rw[hQ,jS] at h
   rcases Nat.lt_or_ge i n with h1|h1
   ·exact zT n (by omega) h i h1 hl hq
   ·obtain rfl:i=n:=by omega
    rw[hQ] at hq;cases hq
  |true=>
   rw[hQ,jR] at h
   cases hw:xD f c Q n with
   |false=>rw[hw] at h;cases h
   |true=>
    rw[hw,jR,Ms] at h
    rcases Nat.lt_or_ge i n with h1|h1
    ·exact zT n (by omega) hw i h1 hl hq
    ·obtain rfl:i=n:=by omega
     exact h
section
variable {f:Fl} (hz:f.Sz 1048576) (c:Cp) (A M:List (List C)) (cn bn:Str) (G oth:List Str) (ok:Bool) (ho:oth.length<=1048576)
include hz ho
theorem K4 {i:Nat} (hi:i<f.cps.length) (lw:Bool) (sel:List Cp) (hs:sel.length<=1048576):
  apn 26 aE.d2 ([C.l A,.l M,.s cn,.s bn,.l (G.map sE),.b ok,.b lw,.i (i:Nat)]++f.e++c.e++[.l (oth.map sE),.l ((sel.map Cp.name).map sE)])=
  some (.again ([C.l A,.l M,.s cn,.s bn,.l (G.map sE),.b ok,.b (bif Qh f bn oth M i then (bif lw then decide (f.cps[i].rank<c.rank) else false) else lw),.i (i+1:Nat)]++f.e++c.e++[.l (oth.map sE),.l (((bif Qh f bn oth M i then sel++[f.cps[i]] else sel).map Cp.name).map sE)])):=by
 have hlc:f.cps.length<big:=by have:=hz.2.2.1;simp only[big];omega
 have g0:=getD_map' Cp.e hi
 have wi:=I8 oth f.cps[i].name ho
 have q1:(f.cps[i].at_.toList==bn.toList)=sEq f.cps[i].at_ bn:=rfl
 have q2:(f.cps[i].at_.toList==(Go.Ev.bs #[]).toList)=sEq f.cps[i].at_ (mkS []):=rfl
 have hc1:sel.length+1<=4294967296:=by omega
 have mp:(sel.map Cp.name).map sE++rows [[C.s f.cps[i].name]]=((sel++[f.cps[i]]).map Cp.name).map sE:=by simp[rows,sE]
 have rl:(rows [[C.s f.cps[i].name]]).length=1:=rfl
 have e2:∀q:Bool,apn 39 aE.d1 ([C.l A,.l M,.s cn,.s bn,.l (G.map sE),.b ok,.b lw,.i (i:Nat),.b q]++f.e++c.e++[.l (oth.map sE),.l ((sel.map Cp.name).map sE)]++f.cps[i].e)=some (.again ([C.l A,.l M,.s cn,.s bn,.l (G.map sE),.b ok,.b (bif q then (bif lw then decide (f.cps[i].rank<c.rank) else false) else lw),.i (i+1:Nat)]++f.e++c.e++[.l (oth.map sE),.l (((bif q then sel++[f.cps[i]] else sel).map Cp.name).map sE)])):=fun q=>by
  simp only[Fl.e,Cp.e,jA,jB,apL,jC,jD,aE.d1,C.B_b,C.I_i,C.L_l,jW,rl,hc1,Mt,jR,mp,w1 hi hlc]
  cases q<;>cases lw<;>rfl
 rw[show Qh f bn oth M i=(sEq f.cps[i].at_ bn&&(!sEq f.cps[i].at_ (mkS [])&&((oth.any fun y=>sEq y f.cps[i].name)||(decide ((i:Int)<(M.length:Int))&&((((M.getD i []).getD 0 .nil).I).tmod 2==0))))) by simp only[Qh,Mg hi]]
 rw[←e2]
 simp only[Fl.e,Cp.e,jA,jB,apL,jC,jD,aE.d2,C.B_b,C.I_i,C.L_l,C.S_s,jW,ltL hi,jX,jY,Mt,jR,g0,q1,q2,wi,ad,jI]
 cases sEq f.cps[i].at_ bn<;>cases sEq f.cps[i].at_ (mkS [])<;>cases (oth.any fun y=>sEq y f.cps[i].name)<;>cases decide ((i:Int)<(M.length:Int))<;>rfl
theorem KX:lim (apn 26 aE.d2) ([C.l A,.l M,.s cn,.s bn,.l (G.map sE),.b ok,.b true,.i 0]++f.e++c.e++[.l (oth.map sE),.l af])=
  some (.brk 0 ([C.l A,.l M,.s cn,.s bn,.l (G.map sE),.b ok,.b (xD f c (Qh f bn oth M) f.cps.length)]++f.e++c.e++[.l (((nC (Qh f bn oth M) f.cps f.cps.length).map Cp.name).map sE)])):=by
 have h:=bQ (n:=f.cps.length) (b:=0) (ys:=[C.l A,.l M,.s cn,.s bn,.l (G.map sE),.b ok,.b (xD f c (Qh f bn oth M) f.cps.length)]++f.e++c.e++[.l (((nC (Qh f bn oth M) f.cps f.cps.length).map Cp.name).map sE)]) (body:=apn 26 aE.d2)
  (S:=fun i=>[C.l A,.l M,.s cn,.s bn,.l (G.map sE),.b ok,.b (xD f c (Qh f bn oth M) i),.i (i:Nat)]++f.e++c.e++[.l (oth.map sE),.l (((nC (Qh f bn oth M) f.cps i).map Cp.name).map sE)])
  (fun i hi=>by
   have hn:=yB (Qh f bn oth M) f.cps i
   have:=K4 hz c A M cn bn G oth ok ho hi (xD f c (Qh f bn oth M) i) (nC (Qh f bn oth M) f.cps i) (by have:=hz.2.2.1;omega)
   simp only[xD,Be _ hi,Mg hi]
   exact this)
  (by
   have:¬((f.cps.length:Int)<(f.cps.length:Int)):=by omega
   simp only[Fl.e,Cp.e,jA,jB,apL,jC,jD,aE.d2,C.I_i,C.L_l,jW,this,Mu,jS])
  f.cps.length 0 (by omega)
 exact h
end
theorem ku (xs ys:List Int) (hx:xs.length<=1048576) (hy:ys.length<=1048576):eJ [.l (xs.map iE),.l (ys.map iE)]=some [.b (decide (gH ltI xs ys<0))]:=by
 simp only[eJ,eJ.d1,apL,jC,jD,kF xs ys hx hy,ad,jI,C.I_i,jV]
theorem sW (f:Fl) (g:List Str):(l9 f g).length<=g.length:=by
 unfold l9
 cases (bl f&&aA (lX f g) 0 g.length)
 ·simp
 ·rw[jR,tz,dP,jW];exact Mp _
theorem LB {A B:List (List C)} (hA:BY A) (hB:BY B):apn 2 aE.d4 [.l A,.l B]=some (.ret [.b true]):=by
 obtain ⟨f,g,g1,hz,hg⟩:=uR hB
 obtain ⟨xs,ys,g2,l1,l2⟩:=D8 hA
 have m1:=qp hz hg
 have m2:=xk hz hg
 have m3:=nE hz g hg
 have m4:=yO hz g hg
 have hl:=sW f g
 have hg1:=hg.1
 have e0:=ku (l9 f g) (l9 f g) (by omega) (by omega)
 have e1:=ku xs ys (by omega) (by omega)
 have e2:=ku ys xs (by omega) (by omega)
 have e3:=mP xs ys (by omega) (by omega)
 rw[r8] at e0
 rw[rb tR] at e2
 have n0:¬((0:Int)<0):=by omega
 have bb:∀b:Bool,(b==b)=true:=fun b=>beq_self_eq_true b
 simp only[Fl.e,jA,jB] at g1 m1 m2 m3 m4
 simp only[apL,jC,jD,aE.d4,g1,g2,m1,m2,m3,m4,e0,e1,e2,e3,ad,call2,call5,jI,C.B_b,C.L_l,jW,bne_self_eq_false,bb,jZ,ja,jR,jS,n0,Mu]
 by_cases h:gH ltI xs ys<0
 ·have:¬(-gH ltI xs ys<0):=by omega
  simp only[h,this,Mt,Mu,jR,ja]
 ·simp only[h,Mu,jS]
theorem vB {A B:List (List C)} (hA:BY A) (hB:BY B):aE [.l A,.l B]=some [.b true]:=by
 simp only[aE,aE.d7,apL,jC,jD,C.L_l]
 by_cases la:(A.length:Int)>1048576
 ·simp only[la,Mt,jZ,jS,jV]
 by_cases lb:(B.length:Int)>1048576
 ·simp only[la,lb,Mt,Mu,ja,jR,jV]
 obtain ⟨f,cn,bn,g1,hz,zc,zb⟩:=yw hA
 obtain ⟨f2,oth,g2,-,hoth⟩:=uR hB
 have v1:=u9 hz cn bn
 have v2:=uZ hz cn bn
 have vl:=CN hz cn bn
 obtain ⟨c,okc,gf,hc⟩:=GJ (f:=f) cn hz.2.2.1
 have wn:=EX ((cG f cn bn).getD []) vl
 have bb:∀b:Bool,(b==b)=true:=fun b=>beq_self_eq_true b
 have fin:=LB hA hB
 have tail:apn 22 aE.d6 ([C.l A,.l B,.s cn,.s bn,.l (((cG f cn bn).getD []).map sE),.b (cG f cn bn).isSome]++f.e++c.e)=some (.ret [.b true]):=by
  have hL:=KX hz c A B cn bn ((cG f cn bn).getD []) oth (cG f cn bn).isSome hoth.1
  have hlow:=zT (f:=f) (c:=c) (Q:=Qh f bn oth B) f.cps.length (Mp _)
  have hQ:∀i (hi:i<f.cps.length),Qh f bn oth B i=true->sEq f.cps[i].at_ bn=true:=fun i hi h=>by
   simp only[Qh,Mg hi,Mk] at h
   exact h.1
  have hkn:=GH (Qh f bn oth B) f
  generalize hS:(nC (Qh f bn oth B) f.cps f.cps.length).map Cp.name=S at hL hkn
  generalize xD f c (Qh f bn oth B) f.cps.length=lw at hL hlow
  have hSz:=hkn.sz hz
  have hd:=tK hz (s:=⟨cn,bn,S⟩) ⟨zc,zb,hSz⟩
  have fin2:∀b:Bool,(b=true->lw=true)->apn 12 aE.d3 ([C.l A,.l B,.s cn,.s bn,.l (((cG f cn bn).getD []).map sE),.b (cG f cn bn).isSome,.b b]++f.e++[.l (S.map sE)])=some (.nrm [.l A,.l B]):=fun b hb=>by
   cases b with
   |false=>simp only[Fl.e,jA,jB,apL,jC,jD,aE.d3,C.B_b,jS]
   |true=>
    have hlw:=hb rfl
    simp only[Fl.e,Sp.e,I5,jA,jB] at hd
    simp only[Fl.e,jA,jB,apL,jC,jD,aE.d3,C.B_b,C.L_l,jR,hd,call5,jI]
    cases hdn:(doR f ⟨cn,bn,S⟩).2 with
    |false=>simp only[jS]
    |true=>
     obtain ⟨c',b',k,hk,k1,k2,k3,k4,k5,k6⟩:=Lj hdn
     have hcc:c=c':=by
      rcases hc with ⟨-,h⟩|⟨-,k',hk',h,h2⟩
      ·omega
      ·have:k'=k:=by omega
       subst this;rw[h2,k2]
     subst hcc
     obtain ⟨best,h1,h2⟩:=GO (f:=f) (c:=c) (b:=b') (Qh f bn oth B) (fun i hi hq=>by
      have a1:=hQ i hi hq
      have a2:=hlow hlw i hi hi hq
      simp only[gR,k3,a1,a2,Mt,Bool.and_self]) (by rw[hS];exact k5)
     have hV:cG f cn bn=some best:=by rw[k6,h1]
     obtain ⟨-,-,-,kn2⟩:=DX hV
     have z2:=kn2.sz hz
     have n1:=nE hz S hSz
     have n2:=nE hz best z2
     have l1:=sW f S
     have l2:=sW f best
     have ll1:=hSz.1
     have ll2:=z2.1
     have n3:=ku (l9 f S) (l9 f best) (by omega) (by omega)
     rw[pT k4 hkn,pT k4 kn2] at n3
     rw[pT k4 hkn] at n1
     rw[pT k4 kn2] at n2
     rw[hS] at h2
     simp only[Fl.e,jA,jB] at n1 n2
     simp only[hV,Nd,Ng,jZ,ja,jR,n1,n2,n3,h2,ad,jI,C.L_l,C.B_b,jC,Mu,jS]
  have key:apn 24 aE.d5 ([C.l A,.l B,.s cn,.s bn,.l (((cG f cn bn).getD []).map sE),.b (cG f cn bn).isSome,.b lw]++f.e++c.e++[.l (S.map sE)])=some (.ret [.b true]):=by
   have f1:=fin2 lw id
   have f0:=fin2 false (fun h=>by cases h)
   simp only[Fl.e,jA,jB] at f1 f0
   simp only[Fl.e,Cp.e,jA,jB,apL,jC,jD,aE.d5,C.S_s,C.B_b,C.L_l]
   cases (c.at_.toList==(Go.Ev.bs #[]).toList) with
   |true=>simp only[jR,jJ,f1,fin]
   |false=>simp only[jS,jJ,f0,fin]
  simp only[Fl.e,jA,jB] at g2
  simp only[Fl.e,Cp.e,jA,jB] at hL key
  simp only[Fl.e,Cp.e,jA,jB,apL,jC,jD,aE.d6,g2,call5,jI,C.L_l]
  erw[hL]
  simp only[aq]
  exact key
 simp only[Fl.e,jA,jB] at g1 v1 v2
 simp only[Fl.e,Cp.e,jA,jB] at gf tail
 simp only[la,lb,Mu,ja,jR,jS,g1,v1,v2,wn,gf,ad,call2,call6,call13,jI,jC,jD,C.L_l,C.B_b,bb,jZ]
 cases hV:cG f cn bn with
 |none=>
  rw[hV] at tail
  simp only[Nf,Option.getD_none,jS,jJ] at tail⊢
  rw[tail];rfl
 |some G=>
  obtain ⟨d1,d2,d3,d4⟩:=DX hV
  have zG:=d4.sz hz
  have m1:=tK hz (s:=⟨cn,bn,G⟩) ⟨zc,zb,zG⟩
  have m2:=qp hz zG
  rw[hV] at tail
  simp only[Fl.e,Sp.e,I5,jA,jB,d1,d2,d3,Bool.and_self] at m1 m2
  simp only[Nd,Ng,jR,m1,m2,call5,ad,jI,jC,jD,C.B_b,jZ,ja,jS,jJ] at tail⊢
  rw[tail];rfl
end Go.Ev
namespace Go.Ev
open Go.RowKit
def bE (n:Int):List C:=[.i n]
def uT (k:IntKind) (w:World) (a:Option Addr) (len cap:Nat) (zs:List Int):Prop:=
 (a=none/\len=0/\cap=0/\zs=[])∨
 ∃x,a=some x/\len<=cap/\cap<=maxLen/\zs.length=cap/\(∀i,i<zs.length->w.cell? (x.add i)=some (.int k (zs.getD i 0)))/\∀n∈zs,(Lit.int k n).wf=true
theorem Es {w:World} {a:Addr} {v:Value} (h:w.cell? a=some v):a.block<w.heap.size/\a.spot=none:=by
 simp only[World.cell?] at h
 split at h
 ·rename_i c _ _ hb
  refine ⟨?_,?_⟩
  ·exact (Array.getElem?_eq_some_iff.1 hb).1
  ·split at h
   ·simp at h
   ·rename_i hs;simpa using hs
 ·simp at h
theorem xY {T:Tys} {F:Nat->Prop} {w:World} {a:Option Addr} {len cap:Nat} {zs:List Int} {t:TypeId} {d:TD} (hd:bj T t=some d) (hcts:d.cts=[.int .u8]) (hF:∀k,k<w.heap.size->F k) (h:uT .u8 w a len cap zs):
  cE T F w (.sl t) (.l ((zs.take len).map bE)) (.slice a len cap):=by
 rcases h with ⟨rfl,rfl,rfl,rfl⟩|⟨x,rfl,hl,hm,hz,hc,hw⟩
 ·exact .sl0 t none 0
 ·rcases Nat.eq_zero_or_pos len with h0|h0
  ·subst h0
   rw[Nc,MC]
   exact .sl0 t (some x) cap
  ·have hc0:=hc 0 (by omega)
   have hx:=Es hc0
   rw[Addr.add,if_pos rfl] at hx
   obtain ⟨g,o,sp⟩:=x
   obtain ⟨hg,hsp⟩:=hx
   simp only at hsp;subst hsp
   have hlen:((zs.take len).map bE).length=len:=by simp;omega
   have key:=cE.sl (T:=T) (F:=F) (w:=w) t d ((zs.take len).map bE) g o cap (fun i _=>.int .u8 (zs.getD i 0)) hd (hF _ hg) (by omega)
    (fun i cs hi=>by
     simp only[No,Option.map_eq_some_iff] at hi
     obtain ⟨n,_,rfl⟩:=hi
     rw[hcts];rfl)
    (fun i cs j c hi hj=>by
     have hil:i<len:=by
      have:=(Ml.1 hi).1
      omega
     simp only[No,Option.map_eq_some_iff] at hi
     obtain ⟨n,hn,rfl⟩:=hi
     have hj0:j=0:=by
      have:=(Ml.1 hj).1
      simp only[bE,Mn,Mo] at this;omega
     subst hj0
     have h1:=hc i (by omega)
     rw[hcts]
     have ha:Addr.add ⟨g,o,none⟩ i=⟨g,o+(i*[CT.int .u8].length+0),none⟩:=by
      rw[Addr.add];split
      ·rename_i h;subst h;simp
      ·simp
     rw[←ha];exact h1)
    (fun i cs j c t' hi hj ht=>by
     have hil:i<len:=by
      have:=(Ml.1 hi).1
      omega
     simp only[No,Option.map_eq_some_iff] at hi
     obtain ⟨n,hn,rfl⟩:=hi
     have hj0:j=0:=by
      have:=(Ml.1 hj).1
      simp only[bE,Mn,Mo] at this;omega
     subst hj0
     rw[hcts] at ht
     simp only[M3,Mj] at ht
     subst ht
     simp only[bE,M3,Mj] at hj
     subst hj
     rw[List.getElem?_take,if_pos hil] at hn
     rw[Mm,hn]
     exact .int .u8 n)
   rw[hlen] at key
   exact key
theorem JS {n:Int} (h:(Lit.int .u8 n).wf=true):0<=n/\n<=255:=by
 simp only[Lit.wf,Mk,Ms] at h
 exact h
theorem uT.bytes {w:World} {a:Option Addr} {len cap:Nat} {zs:List Int} (h:uT .u8 w a len cap zs):∀n,n∈zs.take len->0<=n/\n<=255:=by
 intro n hn
 have hn':=List.mem_of_mem_take hn
 rcases h with ⟨_,_,_,rfl⟩|⟨x,_,_,_,_,_,hw⟩
 ·simp at hn'
 ·exact JS (hw n hn')
theorem Ga {zs:List Int} (h:∀n,n∈zs->0<=n/\n<=255):BY (zs.map bE):=fun r hr=>by
 obtain ⟨n,hn,rfl⟩:=MT.1 hr
 exact ⟨n,rfl,h n hn⟩
end Go.Ev
