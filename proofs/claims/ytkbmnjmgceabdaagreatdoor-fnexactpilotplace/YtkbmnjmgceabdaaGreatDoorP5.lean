/- Proved here: the law FnExactPilotPlaceCard of the given program answers true at every input, and leaves the input as it was; no condition. This text: lemmas on the way (an evaluator of the program's code, sound once for all; the functions it prints; plain proofs on these). -/
import Derived.Test.YtkbmnjmgceabdaaGreatDoorP4
set_option linter.all false
set_option autoImplicit false
set_option maxRecDepth 8000
namespace Go.Ev
theorem bestIx_fits (f:Fl) (c:Cp):∀i,i≤f.bts.length→bestIx f c i=-1∨∃k,∃h:k<f.bts.length,bestIx f c i=(k:Nat)∧fitsN f c f.bts[k] false=0
 |0,_=>.inl rfl
 |i+1,h=>by
  have hi:i<f.bts.length:=by omega
  have ih:=bestIx_fits f c i (by omega)
  simp only[bestIx,List.getElem?_eq_getElem hi]
  cases hq:fitsN f c f.bts[i] false==0 with
  |false=>simpa using ih
  |true=>
   simp only[Bool.true_and]
   cases wins f c (bestIx f c i) f.bts[i] with
   |true=>exact .inr ⟨i,hi,rfl,by simpa using hq⟩
   |false=>exact ih
theorem chooseB_in {f:Fl} {c:Cp} (h:sEq (chooseB f c) (mkS [])=false):∃b,b∈f.bts∧chooseB f c=b.name∧fitsN f c b false=0:=by
 have h0:sEq (mkS []) (mkS [])=true:=(sEq_iff _ _).2 rfl
 rcases bestIx_fits f c f.bts.length (Nat.le_refl _) with e|⟨k,hk,e,hf⟩
 ·have:chooseB f c=mkS []:=by
   unfold chooseB
   rw[e]
   split
   ·rfl
   ·rfl
  rw[this,h0] at h;cases h
 ·refine ⟨f.bts[k],List.getElem_mem hk,?_,hf⟩
  unfold chooseB
  rw[e,Int.toNat_natCast,List.getElem?_eq_getElem hk]
  exact if_neg (by omega)
def fstQ (f:Fl):Option Stp:=(queue f).findSome? (fitQ f)
def plF (f:Fl) (x:Stp):Fl:=match f.cps[(cIx f x.1).toNat]? with|some c=>setAt f (cIx f x.1).toNat c x.2.1|none=>f
structure First (f:Fl) (x:Stp) where
 i:Nat
 hi:i<f.cps.length
 b:Bt
 hb:b∈f.bts
 e:x=(f.cps[i].name,b.name,[])
 ix:cIx f f.cps[i].name=(i:Nat)
 w:sEq f.cps[i].at_ (mkS [])=true
 fit:fitsN f f.cps[i] b false=0
 put:plF f x=setAt f i f.cps[i] b.name
theorem first_some {f:Fl} (hv:VF f) {x:Stp} (h:fstQ f=some x):Nonempty (First f x):=by
 obtain ⟨c,hc,hx⟩:=List.exists_of_findSome?_eq_some h
 unfold fitQ at hx
 cases hq:sEq (chooseB f c) (mkS []) with
 |true=>rw[hq] at hx;cases hx
 |false=>
  rw[hq] at hx
  obtain rfl:=Option.some.inj hx
  obtain ⟨hm,hw⟩:=queue_mem hc
  obtain ⟨i,hi,e1,rfl⟩:=cIx_name (uniq_of (valid_vf hv)) hm
  obtain ⟨b,hb,e2,hf⟩:=chooseB_in hq
  refine ⟨⟨i,hi,b,hb,by rw[e2],e1,hw,hf,?_⟩⟩
  simp only[plF,e1,e2,Int.toNat_natCast,List.getElem?_eq_getElem hi]
theorem First.valid {f:Fl} {x:Stp} (F:First f x) (h:VF f):VF (plF f x):=by
 rw[F.put];exact setAt_valid h F.hi F.w F.hb F.fit
theorem First.sz {f:Fl} {x:Stp} (F:First f x) (hz:f.Sz 1048576):(plF f x).Sz 1048576:=by
 rw[F.put]
 exact setAt_sz hz (hz.2.2.2 _ (List.getElem_mem F.hi)) (hz.1.2 _ F.hb).1 _
theorem First.less {f:Fl} {x:Stp} (F:First f x) (h:VF f):(waits (plF f x)).length+1≤(waits f).length:=by
 rw[F.put]
 have hn:waitP {f.cps[F.i]'F.hi with at_:=F.b.name}=false:=bname_ne ((vb_of (valid_vf h)).bb _ F.hb)
 have hw:waitP (f.cps[F.i]'F.hi)=true:=F.w
 have hp:0<f.cps.countP waitP:=List.countP_pos_iff.2 ⟨_,List.getElem_mem F.hi,hw⟩
 simp only[waits,setAt,←List.countP_eq_length_filter]
 rw[List.countP_set F.hi,hn,hw]
 simp
 omega
def stS (x:Stp):Sp:=⟨x.1,x.2.1,x.2.2⟩
def place:Nat→Fl→List Sp→Fl×List Sp
 |0,f,s=>(f,s)
 |k+1,f,s=>match fstQ f with
  |some x=>place k (plF f x) (s++[stS x])
  |none=>(f,s)
theorem place_none {f:Fl} (h:fstQ f=none) (s:List Sp):∀k,place k f s=(f,s)
 |0=>rfl
 |k+1=>by simp only[place,h]
theorem place_ok:∀(k:Nat) (f:Fl) (s:List Sp),VF f→f.Sz 1048576→(∀x,x∈s→x.gone=[])→
  (place k f s).1.Sz 1048576∧(place k f s).2.length≤s.length+k∧∀x,x∈(place k f s).2→x.gone=[]
 |0,f,s,hv,hz,hs=>⟨hz,Nat.le_refl _,hs⟩
 |k+1,f,s,hv,hz,hs=>by
  cases hx:fstQ f with
  |none=>rw[place_none hx];exact ⟨hz,Nat.le_add_right _ _,hs⟩
  |some x=>
   obtain ⟨F⟩:=first_some hv hx
   have:=place_ok k (plF f x) (s++[stS x]) (F.valid hv) (F.sz hz) (fun y hy=>by
    rcases List.mem_append.1 hy with h|h
    ·exact hs y h
    ·rw[List.mem_singleton.1 h,stS,F.e])
   simp only[place,hx]
   simp only[List.length_append,List.length_cons,List.length_nil] at this
   exact ⟨this.1,by omega,this.2.2⟩
theorem place_lim {body:List C→R} {S T:Fl→List Sp→List C} {o:List C→Out} (ho:∀ys,(o ys).stops)
  (hs:∀(f:Fl) (s:List Sp),VF f→f.Sz 1048576→s.length≤60→∀x,fstQ f=some x→∀F:First f x,body (S f s)=some (.again (S (plF f x) (s++[stS x]))))
  (he:∀(f:Fl) (s:List Sp),VF f→f.Sz 1048576→s.length≤60→fstQ f=none→body (S f s)=some (o (T f s))):
  ∀(k:Nat) (f:Fl) (s:List Sp),VF f→f.Sz 1048576→(waits f).length≤k→s.length+k≤60→lim body (S f s)=some (o (T (place k f s).1 (place k f s).2))
 |k,f,s,hv,hz,hk,hl=>by
  cases hx:fstQ f with
  |none=>rw[place_none hx,lim_stop (he f s hv hz (by omega) hx) (ho _)]
  |some x=>
   obtain ⟨F⟩:=first_some hv hx
   have h1:=F.less hv
   cases k with
   |zero=>omega
   |succ k=>
    rw[lim_again (hs f s hv hz (by omega) x hx F),place_lim ho hs he k (plF f x) (s++[stS x]) (F.valid hv) (F.sz hz) (by omega) (by simp;omega)]
    simp only[place,hx]
end Go.Ev
namespace Go.Ev
theorem goA_brk (g:Nat) (ys:List C):goA g (some (.brk g ys))=some (.again ys):=by
 show sif (Nat.beq g g) _ _=_
 rw[Nat.beq_refl];rfl
theorem bindGo_lim {g:Nat} {f:List C→R} {xs:List C} (h:∀j ys,f xs=some (.brk j ys)→j=g) (h2:f xs≠none) (h3:∀ys,f xs≠some (.again ys)):bindGo g (f xs) f=lim (fun xs=>goA g (f xs)) xs:=by
 cases hr:f xs with
 |none=>exact absurd hr h2
 |some o=>cases o with
  |brk j ys=>
   obtain rfl:=h j ys hr
   have e:(fun xs=>goA j (f xs)) xs=some (.again ys):=by show goA j (f xs)=_;rw[hr,goA_brk]
   rw[lim_again e]
   show sif (Nat.beq j j) _ _=_
   rw[Nat.beq_refl];rfl
  |ret ys=>
   have e:(fun xs=>goA g (f xs)) xs=some (.ret ys):=by show goA g (f xs)=_;rw[hr];rfl
   rw[lim_ret e];rfl
  |nrm ys=>
   have e:(fun xs=>goA g (f xs)) xs=some (.nrm ys):=by show goA g (f xs)=_;rw[hr];rfl
   rw[lim_stop (body:=fun xs=>goA g (f xs)) (o:=.nrm ys) e trivial];rfl
  |again ys=>exact absurd hr (h3 ys)
theorem some_loop2 {α β:Type} {q:List β} {g:β→Option α} {out:α→Out} (ho:∀x,(out x).stops) {body:List C→R} {S:Nat→List C} {b:Nat} {ys:List C}
  (hs:∀i (h:i<q.length),body (S i)=match g q[i] with|some x=>some (out x)|none=>some (.again (S (i+1)))) (he:body (S q.length)=some (.brk b ys)):
  ∀k i,k+i=q.length→lim body (S i)=match (q.drop i).findSome? g with|some x=>some (out x)|none=>some (.brk b ys)
 |0,i,h=>by
  have:i=q.length:=by omega
  subst this
  rw[lim_brk he,List.drop_length];rfl
 |k+1,i,h=>by
  have hi:i<q.length:=by omega
  have hb:=hs i hi
  rw[List.drop_eq_getElem_cons hi,List.findSome?_cons]
  cases hg:g q[i] with
  |some x=>rw[hg] at hb;rw[lim_stop hb (ho x)]
  |none=>rw[hg] at hb;rw[lim_again hb,some_loop2 ho hs he k (i+1) (by omega)]
section
variable {f:Fl} (hz:f.Sz 1048576)
include hz
theorem i_pQueue_own (hv:VB f) (hu:UniqF f.cps):i_pQueue f.e=some [.l (f.bts.map Bt.e),.l (f.svs.map Sv.e),.l (f.cps.map Cp.e),.l ((queue f).map Cp.e)]:=by
 have hlc:f.cps.length<big:=by have:=hz.2.2.1;simp only[big];omega
 have h:=run_loop (body:=ap6 i_pQueue.d2) (S:=fun i=>[C.i (f.cps.length:Nat),C.i (i:Nat),C.l (f.bts.map Bt.e),C.l (f.svs.map Sv.e),C.l (f.cps.map Cp.e),C.l (((f.cps.take i).filter waitP).map Cp.e)]) (n:=f.cps.length) (b:=0) (ys:=[C.l (f.bts.map Bt.e),C.l (f.svs.map Sv.e),C.l (f.cps.map Cp.e),C.l (((f.cps.take f.cps.length).filter waitP).map Cp.e)])
  (fun i hi=>by
   have hn:((f.cps.take i).filter waitP).length+1≤4294967296:=by have:=waits_len f i;have:=hv.n60;omega
   have q0:(((f.cps[i].e.getD 11 C.nil).S).toList==(bs #[]).toList)=waitP f.cps[i]:=rfl
   have hr:∀c:Cp,[c.e.getD 0 .nil,c.e.getD 1 .nil,c.e.getD 2 .nil,c.e.getD 3 .nil,c.e.getD 4 .nil,c.e.getD 5 .nil,c.e.getD 6 .nil,c.e.getD 7 .nil,c.e.getD 8 .nil,c.e.getD 9 .nil,c.e.getD 10 .nil,c.e.getD 11 .nil]=c.e:=fun c=>rfl
   simp only[apL,jC,jD,i_pQueue.d2,C.I_i,C.L_l,jW,ltL hi,decide_true,jR,jX,jY,getD_map' Cp.e hi,q0,waits_succ f hi,rows,List.length_cons,List.length_nil,Nat.zero_add,hn,hr]
   cases waitP f.cps[i]<;>simp[i_pQueue.d1,w1 hi hlc])
  (by simp[i_pQueue.d2]) f.cps.length 0 rfl
 simp only[Int.natCast_zero,List.take_zero,List.filter_nil,List.map_nil,List.take_length] at h
 have hw:∀x,x∈waits f→x∈f.cps:=fun x h=>(List.mem_filter.1 h).1
 have hq:∀x,x∈waits f→rkOk x.rank x.born=true:=fun x h=>by
  have:=hv.cb x (hw x h)
  rw[rkOk_iff];exact ⟨this.2.2.2.1,this.2.2.2.2⟩
 have hlt:∀x y,x∈waits f→y∈waits f→ltR i_pQueue_1 x.e y.e=ahd x y:=fun x y hx hy=>
  lt_rows i_pQueue_1_cmp ⟨⟨_,_,_,_,_,_,_,_,_,rfl⟩,hq x hx⟩ ⟨⟨_,_,_,_,_,_,_,_,_,rfl⟩,hq y hy⟩
 have hS:slices_SortFunc_PilotCopy [.l ((waits f).map Cp.e)]=some [.l ((queue f).map Cp.e)]:=by
  have hl:(waits f).length≤4294967296:=by
   have:=List.length_filter_le waitP f.cps
   have:=hv.n60
   unfold waits;omega
  have ha:((waits f).map Cp.e).all cpQ=true:=by
   rw[List.all_map,List.all_eq_true]
   intro x hx
   exact hq x hx
  have hp:apartB (ltR i_pQueue_1) ((waits f).map Cp.e)=true:=apart_q hq ((names_pw hu).sublist List.filter_sublist) hlt
  have hm:sortQ i_pQueue_1 ((waits f).map Cp.e)=(queue f).map Cp.e:=by
   rw[sortQ,←List.map_mergeSort (r:=fun x y:Cp=>!ahd y x) (s:=fun x y=>!ltR i_pQueue_1 y x) (f:=Cp.e) (fun x hx y hy=>by rw[hlt y x hy hx]),queue_sort hu]
  simp only[slices_SortFunc_PilotCopy,sortQF,jC,C.L_l,jW,hl,decide_true,ha,hp,Bool.and_self,jR,hm]
 simp only[i_pQueue,i_pQueue.d4,Fl.e,apL,jC,jD,C.L_l,jW,show nils=([]:List (List C)) from rfl,h,bindBlk_self,i_pQueue.d3]
 rw[show (f.cps.filter waitP)=waits f from rfl,hS]
 simp[call1]
end
def plS (f:Fl) (s:List Sp):List C:=[.b f.pack,.l (f.bts.map Bt.e),.l (f.svs.map Sv.e),.l (f.cps.map Cp.e),.l (s.map Sp.e)]
section
variable {f:Fl} {s:List Sp} (hv:VF f) (hz:f.Sz 1048576) (hs:s.length≤60)
include hv hz hs
theorem i_place_step:ap5 i_pPlace.d3 (plS f s)=match fstQ f with|some x=>some (.brk 1000000 (plS (plF f x) (s++[stS x])))|none=>some (.ret (plS f s)):=by
 have hV:=valid_vf hv
 have hvb:=vb_of hV
 have hq:=i_pQueue_own hz hvb (uniq_of hV)
 have hql:(queue f).length≤60:=by
  rw[(queue_perm f).length_eq]
  exact Nat.le_trans (List.length_filter_le _ _) hvb.n60
 have hqm:∀x,x∈queue f→x∈f.cps:=fun x hx=>(queue_mem hx).1
 unfold fstQ
 generalize queue f=q at hq hql hqm⊢
 have hlb:q.length<big:=by simp only[big];omega
 have h1:=some_loop2 (q:=q) (g:=fitQ f) (out:=fun x=>Out.brk 1000000 (plS (plF f x) (s++[stS x]))) (fun _=>trivial) (body:=ap8 i_pPlace.d1) (S:=fun i=>[C.i (q.length:Nat),C.i (i:Nat)]++f.e++[C.l (s.map Sp.e),C.l (q.map Cp.e)]) (b:=0) (ys:=plS f s)
  (fun i hi=>by
   have m:=hqm _ (List.getElem_mem hi)
   have hC:=i_pChoose_eq hz (hz.2.2.2 _ m) hvb (cp_room hvb _ m) (cp_hold hvb _ m) (cp_apart hvb _ m)
   have q0:((chooseB f q[i]).toList==(bs #[]).toList)=sEq (chooseB f q[i]) (mkS []):=rfl
   obtain ⟨k,hk,k1,k2⟩:=cIx_name (uniq_of hV) m
   have hcix:=i_pCopyAt_eq f q[i].name hz.2.2.1
   rw[k1] at hcix
   have hn:s.length+1≤4294967296:=by omega
   have hp:plF f (q[i].name,chooseB f q[i],[])=setAt f k q[i] (chooseB f q[i]):=by
    simp only[plF,k1,Int.toNat_natCast,List.getElem?_eq_getElem hk,k2]
   simp only[fe,ce,jA,jB] at hC hcix
   simp only[fe,jA,jB,apL,jC,jD,i_pPlace.d1,C.I_i,C.L_l,jW,ltL hi,decide_true,jR,jX,jY,getD_map' Cp.e hi,w1 hi hlb]
   simp only[ce,jC,jD,hC,call1,jI,C.S_s,q0,fitQ]
   cases sEq (chooseB f q[i]) (mkS []) with
   |true=>rfl
   |false=>
    simp only[ja,jR,jS,hcix,jI,jC,C.I_i,jX,decide_true,ltL hk,jY,getD_map' Cp.e hk,k2,rows,List.length_cons,List.length_nil,Nat.zero_add,hn]
    rw[hp]
    simp[plS,setAt,stS,Sp.e,List.map_set,Cp.e,setCs,nils])
  (by simp[i_pPlace.d1,fe,plS]) q.length 0 rfl
 simp only[fe,jA,jB] at hq
 simp only[fe,jA,jB,Int.natCast_zero,List.drop_zero] at h1
 have e0:ap5 i_pPlace.d3 (plS f s)=bindBlk 0 (lim (ap8 i_pPlace.d1) [C.i (q.length:Nat),C.i 0,C.b f.pack,C.l (f.bts.map Bt.e),C.l (f.svs.map Sv.e),C.l (f.cps.map Cp.e),C.l (s.map Sp.e),C.l (q.map Cp.e)]) (ap5 i_pPlace.d2):=by
  simp only[plS,apL,jC,jD,i_pPlace.d3,C.L_l,hq,call4,jI,jW]
 rw[e0,h1]
 cases q.findSome? (fitQ f) with
 |some x=>rfl
 |none=>simp only[bindBlk_self];rfl
theorem s_place_step {x:Stp} (hx:fstQ f=some x) (F:First f x) (r:Option Stp) (hr:r=fstQ (plF f x)):
  ap13 s_PilotPlace.d1 [.b true,.b false,.l (s.map Sp.e),.b f.pack,.s x.1,.s x.2.1,.l [],.l [],.l [],.l (f.bts.map Bt.e),.l (f.svs.map Sv.e),.l (f.cps.map Cp.e),.l (x.2.2.map sE)]
   =some (.again [.b r.isSome,.b false,.l ((s++[stS x]).map Sp.e),.b (plF f x).pack,.s (nxA r),.s (nxB r),.l [],.l [],.l [],.l ((plF f x).bts.map Bt.e),.l ((plF f x).svs.map Sv.e),.l ((plF f x).cps.map Cp.e),.l ((nxG r).map sE)]):=by
 subst hr
 have hF:=s_l5First_eq (F.sz hz) (valid_vf (F.valid hv))
 have hn:s.length+1≤4294967296:=by omega
 rw[show (queue (plF f x)).findSome? (fitQ (plF f x))=fstQ (plF f x) from rfl,outN_eq] at hF
 generalize fstQ (plF f x)=r at hF⊢
 obtain ⟨i,hi,b,hb,e,ix,w,fit,hp⟩:=F
 have hcix:=s_l2Copy_eq f f.cps[i].name hz.2.2.1
 rw[ix] at hcix
 generalize plF f x=f' at hp hF⊢
 subst e
 subst hp
 have hc:(setAt f i f.cps[i] b.name).cps.map Cp.e=(f.cps.map Cp.e).set i (setCs (f.cps[i].e) 11 [.s b.name]):=by
  simp[setAt,List.map_set,Cp.e,setCs]
 rw[hc]
 simp only[fe,hc] at hF
 simp only[setAt] at hF⊢
 simp only[fe,jA,jB] at hcix
 simp only[apL,jC,jD,s_PilotPlace.d1,C.B_b,jR,C.L_l,hcix,call1,jI,C.I_i,jX,decide_true,jW,ltL hi,jY,getD_map' Cp.e hi,rows,List.length_cons,List.length_nil,Nat.zero_add,hn,hF,call4]
 simp[stS,Sp.e,nils]
end
theorem i_pPlace_eq {f:Fl} (hv:VF f) (hz:f.Sz 1048576):i_pPlace f.e=some (plS (place 60 f []).1 (place 60 f []).2):=by
 have hw:(waits f).length≤60:=Nat.le_trans (List.length_filter_le _ _) hv.n60
 have st:=i_place_step hv hz (s:=[]) (by simp)
 have e:ap4 i_pPlace.d4 f.e=bindGo 1000000 (ap5 i_pPlace.d3 (plS f [])) (ap5 i_pPlace.d3):=rfl
 have h:=place_lim (body:=fun xs=>goA 1000000 (ap5 i_pPlace.d3 xs)) (S:=plS) (T:=plS) (o:=Out.ret) (fun _=>trivial)
  (fun f s hv hz hs x hx F=>by rw[i_place_step hv hz hs,hx];exact goA_brk _ _)
  (fun f s hv hz hs hx=>by rw[i_place_step hv hz hs,hx];rfl)
  60 f [] hv hz hw (by simp)
 simp only[i_pPlace]
 rw[e,bindGo_lim (fun j ys h=>?_) (fun h=>?_) (fun ys h=>?_),h]
 ·rfl
 ·rw[st] at h
  split at h
  ·simp only[Option.some.injEq,Out.brk.injEq] at h;exact h.1.symm
  ·simp at h
 ·rw[st] at h;split at h<;>simp at h
 ·rw[st] at h;split at h<;>simp at h
end Go.Ev
namespace Go.Ev
def spS (f:Fl) (s:List Sp):List C:=[.b (fstQ f).isSome,.b false,.l (s.map Sp.e),.b f.pack,.s (nxA (fstQ f)),.s (nxB (fstQ f)),.l [],.l [],.l [],.l (f.bts.map Bt.e),.l (f.svs.map Sv.e),.l (f.cps.map Cp.e),.l ((nxG (fstQ f)).map sE)]
def spT (f:Fl) (s:List Sp):List C:=[.b false,.l (s.map Sp.e),.b f.pack,.l [],.l [],.l [],.l (f.bts.map Bt.e),.l (f.svs.map Sv.e),.l (f.cps.map Cp.e)]
theorem s_place_lim {f:Fl} (hv:VF f) (hz:f.Sz 1048576):lim (ap13 s_PilotPlace.d1) (spS f [])=some (.brk 0 (spT (place 60 f []).1 (place 60 f []).2)):=by
 have hw:(waits f).length≤60:=Nat.le_trans (List.length_filter_le _ _) hv.n60
 exact place_lim (body:=ap13 s_PilotPlace.d1) (S:=spS) (T:=spT) (o:=Out.brk 0) (fun _=>trivial)
  (fun f s hv hz hs x hx F=>by
   have:=s_place_step hv hz hs hx F _ rfl
   have e:spS f s=[.b true,.b false,.l (s.map Sp.e),.b f.pack,.s x.1,.s x.2.1,.l [],.l [],.l [],.l (f.bts.map Bt.e),.l (f.svs.map Sv.e),.l (f.cps.map Cp.e),.l (x.2.2.map sE)]:=by
    simp only[spS,hx,nxA,nxB,nxG,Option.isSome_some]
   rw[e,this];rfl)
  (fun f s hv hz hs hx=>by
   have e:spS f s=[.b false,.b false,.l (s.map Sp.e),.b f.pack,.s (mkS []),.s (mkS []),.l [],.l [],.l [],.l (f.bts.map Bt.e),.l (f.svs.map Sv.e),.l (f.cps.map Cp.e),.l []]:=by
    simp only[spS,hx,nxA,nxB,nxG,Option.isSome_none,List.map_nil]
   rw[e]
   simp[s_PilotPlace.d1,spT])
  60 f [] hv hz hw (by simp)
def placeV (f:Fl):Fl×List Sp:=bif validF f then place 60 f [] else (fl0,[])
def outPl (r:Fl×List Sp):List C:=[.b r.1.pack,.l (r.1.bts.map Bt.e),.l (r.1.svs.map Sv.e),.l (r.1.cps.map Cp.e),.l (r.2.map Sp.e)]
theorem placeV_ok {f:Fl} (hz:f.Sz 1048576):(placeV f).1.Sz 1048576∧(placeV f).2.length≤60∧∀x,x∈(placeV f).2→x.gone=[]:=by
 unfold placeV
 cases hv:validF f with
 |false=>exact ⟨fl0_sz,by simp,fun x hx=>by simp at hx⟩
 |true=>
  have:=place_ok 60 f [] (vf_of hv) hz (fun x hx=>by simp at hx)
  simpa using this
theorem FnExactPilotPlace_true (f:Fl) (hz:f.Sz maxLen):w_FnExactPilotPlace f.e=some [.b true]:=by
 have h1:=w_szPilotFleet_eq f 1048576 (by omega) (by omega) hz
 simp only[Fl.e,jA,jB] at h1
 simp only[w_FnExactPilotPlace,w_FnExactPilotPlace.d1,Fl.e,jA,jB,apL,jC,jD,C.S_s]
 rcases h1 with h|⟨n,n0,n1,hz',h⟩
 ·simp[h,call1]
 have hn:¬n<0:=by omega
 have t1:=w_toPilotFleet_eq f hz'
 have t3:=w_eqPilotFleet_eq f hz'
 have h3:=s_PilotValid_eq hz'
 have h4:=i_PilotValid_eq hz'
 have s1:s_PilotPlace f.e=some (outPl (placeV f)):=by
  simp only[fe] at h3
  simp only[s_PilotPlace,s_PilotPlace.d3,fe,apL,jC,jD,h3,call1,jI,C.B_b,placeV]
  cases hv:validF f with
  |false=>rfl
  |true=>
   have a:=s_l2Fleet_eq hz'
   have b:=s_l5First_eq hz' hv
   have c:=s_place_lim (vf_of hv) hz'
   rw[show (queue f).findSome? (fitQ f)=fstQ f from rfl,outN_eq] at b
   simp only[fe] at a b
   simp only[spS,spT,List.map_nil] at c
   simp only[jZ,jS,jR,a,b,call4,jI,jC,jD,C.B_b,C.L_l,show nils=([]:List (List C)) from rfl,c,bindBlk_self,apL,s_PilotPlace.d2,jV,outPl]
 have s2:i_PilotPlace f.e=some (outPl (placeV f)):=by
  simp only[fe] at h4
  simp only[i_PilotPlace,i_PilotPlace.d1,fe,apL,jC,jD,h4,call1,jI,C.B_b,placeV]
  cases hv:validF f with
  |false=>rfl
  |true=>
   have a:=i_pClone_eq hz'
   have b:=i_pPlace_eq (vf_of hv) hz'
   simp only[fe] at a b
   simp only[jZ,jS,jR,a,b,plS,call4,call5,jI,jC,jD,C.B_b,C.L_l,jV,outPl]
 obtain ⟨hr,hl,hg⟩:=placeV_ok hz'
 generalize placeV f=r at s1 s2 hr hl hg
 have hg':∀x,x∈r.2→x.gone.length≤1048576:=fun x hx=>by rw[hg x hx];simp
 have e1:=w_eqPilotFleet_eq r.1 hr
 have e2:=w_eqPilotStepS_eq r.2 (by omega) hg'
 have mk:=w_markPilotFleet_eq hz' (k:=1) (by omega) (by omega)
 obtain ⟨u1,u2,u3⟩:=mkFl_up hz' (k:=1) (by omega)
 have hm:¬(mkFl f 1).2<0:=by omega
 have mr:=w_markPilotFleet_eq hr (k:=1) (by omega) (by omega)
 have hr2:=w_heldPilotFleet_eq hr (k:=1) (by omega) (by omega)
 obtain ⟨v1,v2,v3⟩:=mkFl_up hr (k:=1) (by omega)
 have hm3:¬(mkFl r.1 1).2<0:=by omega
 have ms:=w_markPilotStepS_eq r.2 (mkFl r.1 1).2 (by omega) hg' (by omega) (by omega)
 have hs:=w_heldPilotStepS_eq r.2 (mkFl r.1 1).2 (by omega) hg' (by omega) (by omega)
 have us:=mkSp_up r.2 hg' (mkFl r.1 1).2
 have hm4:¬(mkAll mkSp r.2 (mkFl r.1 1).2).2<0:=by omega
 simp only[Fl.e,outPl,jA,jB] at t1 t3 s1 s2 e1
 simp only[h,hn,hm,hm3,hm4,t1,t3,s1,s2,mk,mr,hr2,ms,hs,e1,e2,call1,call2,call4,call5,jI,jC,jD,C.I_i,C.L_l,C.B_b,decide_false,jS,jZ,ja,jR,bne_self_eq_false,jV]
end Go.Ev
namespace Go.Ev
theorem dec_list {α:Type} (e:α→List C) (P:α→Prop):∀(es:List (List C)),(∀r,r∈es→∃x,r=e x∧P x)→∃l:List α,es=l.map e∧∀x,x∈l→P x
 |[],_=>⟨[],rfl,fun x h=>by simp at h⟩
 |r::es,h=>by
  obtain ⟨x,rfl,hx⟩:=h r (by simp)
  obtain ⟨l,rfl,hl⟩:=dec_list e P es fun r hr=>h r (by simp[hr])
  exact ⟨x::l,rfl,fun y hy=>by
   rcases List.mem_cons.1 hy with rfl|hy
   ·exact hx
   ·exact hl y hy⟩
theorem db_rows {T:Tys} {e:TypeId} {d:TD} {c:C} (h:DB T (.sl e) c) (hd:tget T e=some d):∃es:List (List C),c=.l es∧es.length≤maxLen∧∀r,r∈es→r.length=d.cts.length∧∀(j:Nat) (c:C) (ct:CT),r[j]?=some c→d.cts[j]?=some ct→DB T ct c:=by
 cases h with
 |l e es h h1 h2=>exact ⟨es,rfl,h,fun r hr=>⟨h1 r d hr hd,fun j c ct=>h2 r d j c ct hr hd⟩⟩
theorem db_str {T:Tys} {c:C} (h:DB T .str c):∃s:Str,c=.s s∧s.size≤maxLen:=by cases h with|s x h=>exact ⟨x,rfl,h⟩
theorem db_int {T:Tys} {k:IntKind} {c:C} (h:DB T (.int k) c):∃n:Int,c=.i n:=by cases h with|i k n h=>exact ⟨n,rfl⟩
theorem db_bool {T:Tys} {c:C} (h:DB T .bool c):∃b:Bool,c=.b b:=by cases h with|b x=>exact ⟨x,rfl⟩
theorem db_strs {c:C} (h:DB T0 (.sl 9) c):∃l:List Str,c=.l (l.map sE)∧SsSz maxLen l:=by
 obtain ⟨es,rfl,hl,hr⟩:=db_rows h (d:=⟨.str,[.str],16⟩) rfl
 obtain ⟨l,rfl,h2⟩:=dec_list sE (fun s=>s.size≤maxLen) es fun r hr'=>by
  obtain ⟨h1,h2⟩:=hr r hr'
  match r,h1 with
  |[c],_=>
   obtain ⟨s,rfl,hs⟩:=db_str (h2 0 c .str rfl rfl)
   exact ⟨s,rfl,hs⟩
 exact ⟨l,rfl,by simpa using hl,h2⟩
theorem db_Bt {c:C} (h:DB T0 (.sl 29) c):∃l:List Bt,c=.l (l.map Bt.e)∧l.length≤maxLen∧∀x,x∈l→(fun x=>x.Sz maxLen) x:=by
 obtain ⟨es,rfl,hl,hr⟩:=db_rows h (d:=⟨(.st [(0,9),(1,9),(2,27),(3,3),(4,3),(5,4)]),[.str,.str,(.sl 9),(.int .i64),(.int .i64),.bool],80⟩) rfl
 obtain ⟨l,rfl,h2⟩:=dec_list Bt.e (fun x=>x.Sz maxLen) es fun r hr'=>by
  obtain ⟨h1,h2⟩:=hr r hr'
  match r,h1 with
  |[x0,x1,x2,x3,x4,x5],_=>
   obtain ⟨x0,rfl,sx0⟩:=db_str (h2 0 x0 _ rfl rfl)
   obtain ⟨x1,rfl,sx1⟩:=db_str (h2 1 x1 _ rfl rfl)
   obtain ⟨x2,rfl,zx2⟩:=db_strs (h2 2 x2 _ rfl rfl)
   obtain ⟨x3,rfl⟩:=db_int (h2 3 x3 _ rfl rfl)
   obtain ⟨x4,rfl⟩:=db_int (h2 4 x4 _ rfl rfl)
   obtain ⟨x5,rfl⟩:=db_bool (h2 5 x5 _ rfl rfl)
   exact ⟨⟨x0,x1,x2,x3,x4,x5⟩,rfl,⟨sx0,sx1,zx2⟩⟩
 exact ⟨l,rfl,by simpa using hl,h2⟩
theorem db_Sv {c:C} (h:DB T0 (.sl 118) c):∃l:List Sv,c=.l (l.map Sv.e)∧l.length≤maxLen∧∀x,x∈l→(fun x=>x.Sz maxLen) x:=by
 obtain ⟨es,rfl,hl,hr⟩:=db_rows h (d:=⟨(.st [(0,9),(1,3)]),[.str,(.int .i64)],24⟩) rfl
 obtain ⟨l,rfl,h2⟩:=dec_list Sv.e (fun x=>x.Sz maxLen) es fun r hr'=>by
  obtain ⟨h1,h2⟩:=hr r hr'
  match r,h1 with
  |[x0,x1],_=>
   obtain ⟨x0,rfl,sx0⟩:=db_str (h2 0 x0 _ rfl rfl)
   obtain ⟨x1,rfl⟩:=db_int (h2 1 x1 _ rfl rfl)
   exact ⟨⟨x0,x1⟩,rfl,sx0⟩
 exact ⟨l,rfl,by simpa using hl,h2⟩
theorem db_Lk {c:C} (h:DB T0 (.sl 148) c):∃l:List Lk,c=.l (l.map Lk.e)∧l.length≤maxLen∧∀x,x∈l→(fun x=>x.sel.size≤maxLen) x:=by
 obtain ⟨es,rfl,hl,hr⟩:=db_rows h (d:=⟨(.st [(0,9),(1,3)]),[.str,(.int .i64)],24⟩) rfl
 obtain ⟨l,rfl,h2⟩:=dec_list Lk.e (fun x=>x.sel.size≤maxLen) es fun r hr'=>by
  obtain ⟨h1,h2⟩:=hr r hr'
  match r,h1 with
  |[x0,x1],_=>
   obtain ⟨x0,rfl,sx0⟩:=db_str (h2 0 x0 _ rfl rfl)
   obtain ⟨x1,rfl⟩:=db_int (h2 1 x1 _ rfl rfl)
   exact ⟨⟨x0,x1⟩,rfl,sx0⟩
 exact ⟨l,rfl,by simpa using hl,h2⟩
theorem db_Cp {c:C} (h:DB T0 (.sl 32) c):∃l:List Cp,c=.l (l.map Cp.e)∧l.length≤maxLen∧∀x,x∈l→(fun x=>x.Sz maxLen) x:=by
 obtain ⟨es,rfl,hl,hr⟩:=db_rows h (d:=⟨(.st [(0,9),(1,9),(2,3),(3,3),(4,3),(5,3),(6,9),(7,30),(8,3),(9,9),(10,9),(11,9)]),[.str,.str,(.int .i64),(.int .i64),(.int .i64),(.int .i64),.str,(.sl 148),(.int .i64),.str,.str,.str],160⟩) rfl
 obtain ⟨l,rfl,h2⟩:=dec_list Cp.e (fun x=>x.Sz maxLen) es fun r hr'=>by
  obtain ⟨h1,h2⟩:=hr r hr'
  match r,h1 with
  |[x0,x1,x2,x3,x4,x5,x6,x7,x8,x9,x10,x11],_=>
   obtain ⟨x0,rfl,sx0⟩:=db_str (h2 0 x0 _ rfl rfl)
   obtain ⟨x1,rfl,sx1⟩:=db_str (h2 1 x1 _ rfl rfl)
   obtain ⟨x2,rfl⟩:=db_int (h2 2 x2 _ rfl rfl)
   obtain ⟨x3,rfl⟩:=db_int (h2 3 x3 _ rfl rfl)
   obtain ⟨x4,rfl⟩:=db_int (h2 4 x4 _ rfl rfl)
   obtain ⟨x5,rfl⟩:=db_int (h2 5 x5 _ rfl rfl)
   obtain ⟨x6,rfl,sx6⟩:=db_str (h2 6 x6 _ rfl rfl)
   obtain ⟨x7,rfl,zx7⟩:=db_Lk (h2 7 x7 _ rfl rfl)
   obtain ⟨x8,rfl⟩:=db_int (h2 8 x8 _ rfl rfl)
   obtain ⟨x9,rfl,sx9⟩:=db_str (h2 9 x9 _ rfl rfl)
   obtain ⟨x10,rfl,sx10⟩:=db_str (h2 10 x10 _ rfl rfl)
   obtain ⟨x11,rfl,sx11⟩:=db_str (h2 11 x11 _ rfl rfl)
   exact ⟨⟨x0,x1,x2,x3,x4,x5,x6,x7,x8,x9,x10,x11⟩,rfl,⟨sx0,sx1,sx6,sx9,sx10,sx11,zx7⟩⟩
 exact ⟨l,rfl,by simpa using hl,h2⟩
abbrev ctsFl:List CT:=[.bool,(.sl 29),(.sl 118),(.sl 32)]
theorem rd_Fl {w:World} {vs:List Value} {xs:List C} (h:Rd T0 w ctsFl vs xs):∃f:Fl,xs=f.e∧f.Sz maxLen:=by
 obtain ⟨h1,_,_,h2⟩:=h
 match xs,h1 with
 |[x0,x1,x2,x3],_=>
  obtain ⟨x0,rfl⟩:=db_bool (h2 0 x0 _ rfl rfl)
  obtain ⟨x1,rfl,zx1⟩:=db_Bt (h2 1 x1 _ rfl rfl)
  obtain ⟨x2,rfl,zx2⟩:=db_Sv (h2 2 x2 _ rfl rfl)
  obtain ⟨x3,rfl,zx3⟩:=db_Cp (h2 3 x3 _ rfl rfl)
  exact ⟨⟨x0,x1,x2,x3⟩,rfl,⟨zx1,zx2,zx3⟩⟩
end Go.Ev
