/- Proved here: the law FnExactPilotQueueCard of the given program answers true at every input, and leaves the input as it was; no condition. This text: lemmas on the way (an evaluator of the program's code, sound once for all; the functions it prints; plain proofs on these). -/
import Derived.Test.YtabnnbpnjenjkaaGreatDoorP3
set_option linter.all false
set_option autoImplicit false
set_option maxRecDepth 8000
namespace Go.Ev
theorem valid_bts0 {f:Fl} (h:validF f=true):∀b,b∈f.bts→berthOk b=true:=by
 intro b hb
 obtain ⟨i,hi,rfl⟩:=List.getElem_of_mem hb
 simp only[validF,Bool.and_eq_true] at h
 have:=(allFrom_iff _ _ _).1 h.2.2.2.2.2.1 i (Nat.zero_le _) (by omega)
 simp only[btA,List.getElem?_eq_getElem hi,Bool.and_eq_true] at this
 exact this.1
theorem valid_cps {f:Fl} (h:validF f=true):∀c,c∈f.cps→copyOk c=true:=by
 intro b hb
 obtain ⟨i,hi,rfl⟩:=List.getElem_of_mem hb
 simp only[validF,Bool.and_eq_true] at h
 have:=(allFrom_iff _ _ _).1 h.2.2.2.2.1 i (Nat.zero_le _) (by omega)
 simp only[cpA,List.getElem?_eq_getElem hi,Bool.and_eq_true] at this
 exact this.1
structure VB (f:Fl):Prop where
 n60:f.cps.length≤60
 cb:∀x,x∈f.cps→(0≤x.room∧x.room≤1000)∧(0≤x.hold∧x.hold≤1000)∧(0≤x.apart∧x.apart≤2)∧(0≤x.rank∧x.rank≤100)∧(0≤x.born∧x.born≤1000000)
 bb:∀b,b∈f.bts→berthOk b=true
theorem vb_of {f:Fl} (h:validF f=true):VB f:=by
 refine ⟨?_,fun x hx=>?_,valid_bts0 h⟩
 ·simp only[validF,Bool.and_eq_true,decide_eq_true_eq] at h
  exact h.2.2.1
 ·have:=valid_cps h x hx
  simp only[copyOk,within,Bool.and_eq_true,decide_eq_true_eq] at this
  exact ⟨this.2.2.2.1,this.2.2.2.2.1,this.2.2.2.2.2.2.1,this.2.1,this.2.2.1⟩
section
variable {f:Fl} (hz:f.Sz 1048576) {c:Cp} (hc:c.Sz 1048576) {b:Bt} (hb:b.Sz 1048576) (hbo:berthOk b=true)
include hz hc hb hbo
end
section
variable {f:Fl} (hz:f.Sz 1048576) (cn bn_:Str)
include hz
end
end Go.Ev
namespace Go.Ev
end Go.Ev
namespace Go.Ev
section
variable {f:Fl} (hz:f.Sz 1048576) {c:Cp} (hc:c.Sz 1048576) {b:Bt} (hb:b.Sz 1048576) (hbo:berthOk b=true)
include hz hc hb hbo
end
end Go.Ev
namespace Go.Ev
section
variable {f:Fl} (hz:f.Sz 1048576) {c:Cp} (hc:c.Sz 1048576) {b:Bt} (hb:b.Sz 1048576) (hbo:berthOk b=true)
include hz hc hb hbo
end
end Go.Ev
namespace Go.Ev
section
variable {f:Fl} (hz:f.Sz 1048576) (cn bn_:Str)
include hz
end
section
variable {f:Fl} (hz:f.Sz 1048576) {c:Cp} (hc:c.Sz 1048576) (hv:VB f) (hr:0≤c.room∧c.room≤1000) (hh:0≤c.hold∧c.hold≤1000) (ha:0≤c.apart∧c.apart≤2)
include hz hc hv hr hh ha
end
end Go.Ev
namespace Go.Ev
section
variable {f:Fl} (hz:f.Sz 1048576) {c:Cp} (hc:c.Sz 1048576) (hv:VB f) (hr:0≤c.room∧c.room≤1000) (hh:0≤c.hold∧c.hold≤1000) (ha:0≤c.apart∧c.apart≤2)
include hz hc hv hr hh ha
end
section
variable {f:Fl} (hz:f.Sz 1048576) (cn:Str)
include hz
end
end Go.Ev
namespace Go.Ev
section
variable {f:Fl} (hz:f.Sz 1048576)
include hz
end
end Go.Ev
namespace Go.Ev
def mkAll {α:Type} (mk:α→Int→α×Int):List α→Int→List α×Int
 |[],k=>([],k)
 |x::r,k=>((mk x k).1::(mkAll mk r (mk x k).2).1,(mkAll mk r (mk x k).2).2)
theorem mkAll_len {α:Type} (mk:α→Int→α×Int):∀(l:List α) (k:Int),(mkAll mk l k).1.length=l.length
 |[],_=>rfl
 |x::r,k=>by simp[mkAll,mkAll_len mk r]
theorem mkAll_up {α:Type} (mk:α→Int→α×Int) (D:Nat):∀(l:List α) (k:Int),(∀x,x∈l→∀k,k≤(mk x k).2∧(mk x k).2≤k+D)→k≤(mkAll mk l k).2∧(mkAll mk l k).2≤k+(l.length*D:Nat)
 |[],k,_=>by simp[mkAll]
 |x::r,k,h=>by
  have h1:=h x (by simp) k
  have h2:=mkAll_up mk D r (mk x k).2 fun y hy=>h y (by simp[hy])
  simp only[mkAll,List.length_cons,Nat.succ_mul]
  omega
theorem mark_loop {α:Type} {e:α→List C} {P:α→Prop} {K:Int} (mk:α→Int→α×Int) (D:Nat) {body:List C→R} {n:Nat} (hn:n≤1048576) (hD:D≤4294967296)
  (hb:∀(i:Nat) (x:α) (c:List (List C)) (k:Int),P x→i<n→c.length=n→c.getD i []=e x→0≤k→k≤K→body [.i k,.i i,.l c]=some (.again [.i (mk x k).2,.i (i+1:Nat),.l (c.set i (e (mk x k).1))]))
  (he:∀(k:Int) (c:List (List C)),c.length=n→body [.i k,.i n,.l c]=some (.brk 0 [.i k,.l c])):
  ∀(r:List α) (p:List (List C)) (k:Int),p.length+r.length=n→(∀x,x∈r→P x)→(∀x,x∈r→∀k,k≤(mk x k).2∧(mk x k).2≤k+D)→0≤k→k+(r.length*D:Nat)≤K→
   lim body [.i k,.i p.length,.l (p++r.map e)]=some (.brk 0 [.i (mkAll mk r k).2,.l (p++(mkAll mk r k).1.map e)])
 |[],p,k,h,_,_,_,_=>by
  simp only[List.length_nil,Nat.add_zero] at h
  have:=he k (p++([]:List α).map e) (by simp[h])
  rw[h]
  exact lim_brk this
 |x::r,p,k,h,hp,hm,k0,k1=>by
  simp only[List.length_cons,Nat.succ_mul] at h k1
  have hx:=hm x (by simp) k
  have hc:(p++(x::r).map e).length=n:=by simp;omega
  have hg:(p++(x::r).map e).getD p.length []=e x:=by
   rw[List.getD_eq_getElem?_getD,List.getElem?_append_right (Nat.le_refl _),Nat.sub_self];rfl
  have h1:=hb p.length x _ k (hp x (by simp)) (by omega) hc hg k0 (by omega)
  rw[lim_again h1]
  have hs:(p++(x::r).map e).set p.length (e (mk x k).1)=(p++[e (mk x k).1])++r.map e:=by
   rw[List.set_append_right _ _ (Nat.le_refl _),Nat.sub_self,List.map_cons,List.set_cons_zero,List.append_assoc];rfl
  have ih:=mark_loop mk D hn hD hb he r (p++[e (mk x k).1]) (mk x k).2 (by simp;omega) (fun y hy=>hp y (by simp[hy])) (fun y hy=>hm y (by simp[hy])) (by omega) (by omega)
  rw[List.length_append,List.length_singleton] at ih
  rw[hs,ih]
  simp[mkAll]
end Go.Ev
namespace Go.Ev
theorem mkBy1 (x:C):(mkBy [[x]]).size=1:=rfl
theorem mt_loop:∀(d:Nat) (k:Int) (o:Str),0≤k→k<10^d→k≤9000000000000000000→o.size+d≤1000→∃s:Str,lim (ap2 w_markText.d1) [.i k,.s o]=some (.brk 0 [.s s])∧s.size≤o.size+d
 |0,k,o,h0,h1,_,h2=>by
  have:k=0:=by simp at h1;omega
  subst this
  exact ⟨o,lim_brk (by simp[w_markText.d1]),by omega⟩
 |d+1,k,o,h0,h1,h3,h2=>by
  by_cases hk:k>0
  ·have e1:w64 (k.tdiv 10)=k/10:=by
    have:k.tdiv 10=k/10:=Int.tdiv_eq_ediv_of_nonneg h0
    rw[this,w64_of (by omega) (by omega)]
   have hs:((mkBy [[C.i (IntKind.wrap .u8 (w64 (48+k.tmod 10)))]])++o).size=1+o.size:=by rw[ByteArray.size_append,mkBy1]
   obtain ⟨s,h4,h5⟩:=mt_loop d (k/10) ((mkBy [[C.i (IntKind.wrap .u8 (w64 (48+k.tmod 10)))]])++o) (by omega) (by rw[Int.pow_succ] at h1;omega) (by omega) (by omega)
   refine ⟨s,?_,by omega⟩
   rw[←h4]
   refine lim_again ?_
   have:(mkBy [[C.i (IntKind.wrap .u8 (w64 (48+k.tmod 10)))]]).size+o.size≤4294967296:=by rw[mkBy1];omega
   simp only[w_markText.d1,apL,jC,jD,C.I_i,C.S_s,hk,decide_true,jR,e1,this]
  ·have:k=0:=by omega
   subst this
   exact ⟨o,lim_brk (by simp[w_markText.d1]),by omega⟩
noncomputable def mtx (k:Int):Str:=match w_markText [.i k] with|some [.s s]=>s|_=>mkS []
theorem mtx_eq {k:Int} (h0:0≤k) (h1:k≤9000000000000000000):w_markText [.i k]=some [.s (mtx k)]:=by
 have key:∃s,w_markText [.i k]=some [.s s]:=by
  by_cases hk:k≤0
  ·exact ⟨bs #[109,48],by simp only[w_markText,w_markText.d3,apL,jC,C.I_i,hk,decide_true,jR,jV]⟩
  ·obtain ⟨s,h2,h3⟩:=mt_loop 19 k (bs #[]) h0 (by omega) h1 (by decide)
   have h3:s.size≤19:=by have e:(bs #[]).size=0:=rfl;omega
   have:(bs #[109]).size+s.size≤4294967296:=by have:(bs #[109]).size=1:=rfl;omega
   exact ⟨bs #[109]++s,by simp only[w_markText,w_markText.d3,apL,jC,C.I_i,hk,decide_false,jS,h2,bindBlk_self,w_markText.d2,C.S_s,this,decide_true,jR,jV]⟩
 obtain ⟨s,h⟩:=key
 rw[h]
 simp[mtx,h]
end Go.Ev
namespace Go.Ev
noncomputable def mkStr (_:Str) (k:Int):Str×Int:=(mtx k,k+1)
theorem w_markStringS_eq (l:List Str) (k:Int) (hl:l.length≤1048576) (h0:0≤k) (h1:k≤8000000000000000000):
  w_markStringS [.i k,.l (l.map sE)]=some [.i (mkAll mkStr l k).2,.l ((mkAll mkStr l k).1.map sE)]:=by
 have h:=mark_loop (K:=8500000000000000000) (P:=fun _=>True) (e:=sE) mkStr 1 (body:=ap3 w_markStringS.d1) (n:=l.length) hl (by omega)
  (fun i x c k _ hi hc hg k0 k1=>by
   have e3:((i:Int)<(c.length:Int)):=by omega
   have e4:w64 (k+1)=k+1:=w64_of (by omega) (by omega)
   simp only[apL,jC,jD,w_markStringS.d1,C.I_i,C.L_l,e3,decide_true,jR,mtx_eq k0 (show k≤9000000000000000000 by omega),call1,jI,jX,jY,hg,e4,w1 hi (show l.length<big by simp only[big];omega)]
   simp[sE,setCs,mkStr])
  (fun k c hc=>by simp[w_markStringS.d1,hc]) l [] k (by simp) (fun _ _=>trivial) (fun x _ k=>by simp only[mkStr];omega) h0 (by simp;omega)
 simp only[List.length_nil,jB,Int.natCast_zero] at h
 simp only[w_markStringS,w_markStringS.d3,apL,jC,jD,C.L_l]
 rw[h]
 simp[w_markStringS.d2]
theorem held_loop {α:Type} {e:α→List C} {P:α→Prop} (mk:α→Int→α×Int) (D:Nat) {body:List C→R} {n:Nat} {L:List (List C)} {K:Int} (hn:n≤1048576) (hD:D≤4294967296)
  (hb:∀(i:Nat) (x:α) (k:Int),P x→i<n→L.getD i []=e (mk x k).1→0≤k→k≤K→body [.l L,.i k,.i i]=some (.again [.l L,.i (mk x k).2,.i (i+1:Nat)]))
  (he:∀(k:Int),body [.l L,.i k,.i n]=some (.brk 0 [.i k])):
  ∀(r:List α) (p:List (List C)) (k:Int),L=p++(mkAll mk r k).1.map e→p.length+r.length=n→(∀x,x∈r→P x)→(∀x,x∈r→∀k,k≤(mk x k).2∧(mk x k).2≤k+D)→0≤k→k+(r.length*D:Nat)≤K→
   lim body [.l L,.i k,.i p.length]=some (.brk 0 [.i (mkAll mk r k).2])
 |[],p,k,_,h,_,_,_,_=>by
  simp only[List.length_nil,Nat.add_zero] at h
  rw[h]
  exact lim_brk (he k)
 |x::r,p,k,hL,h,hp,hm,k0,k1=>by
  simp only[List.length_cons,Nat.succ_mul] at h k1
  have hx:=hm x (by simp) k
  have hg:L.getD p.length []=e (mk x k).1:=by
   rw[hL,List.getD_eq_getElem?_getD,List.getElem?_append_right (Nat.le_refl _),Nat.sub_self];rfl
  rw[lim_again (hb p.length x k (hp x (by simp)) (by omega) hg k0 (by omega))]
  have ih:=held_loop mk D hn hD hb he r (p++[e (mk x k).1]) (mk x k).2 (by rw[hL];simp[mkAll]) (by simp;omega) (fun y hy=>hp y (by simp[hy])) (fun y hy=>hm y (by simp[hy])) (by omega) (by omega)
  rw[List.length_append,List.length_singleton] at ih
  rw[ih]
  simp[mkAll]
theorem w_heldStringS_eq (l:List Str) (k:Int) (hl:l.length≤1048576) (h0:0≤k) (h1:k≤8000000000000000000):
  w_heldStringS [.l ((mkAll mkStr l k).1.map sE),.i k]=some [.i (mkAll mkStr l k).2]:=by
 have hlen:((mkAll mkStr l k).1.map sE).length=l.length:=by rw[jW,mkAll_len]
 have h:=held_loop (K:=8500000000000000000) (P:=fun _=>True) (e:=sE) mkStr 1 (body:=ap3 w_heldStringS.d1) (n:=l.length) (L:=(mkAll mkStr l k).1.map sE) hl (by omega)
  (fun i x k _ hi hg k0 k1=>by
   have e3:((i:Int)<(l.length:Int)):=by omega
   have e4:w64 (k+1)=k+1:=w64_of (by omega) (by omega)
   simp only[apL,jC,jD,w_heldStringS.d1,C.I_i,C.L_l,hlen,e3,decide_true,jR,mtx_eq k0 (show k≤9000000000000000000 by omega),call1,jI,jX,jY,hg,e4,w1 hi (show l.length<big by simp only[big];omega)]
   simp[sE,mkStr])
  (fun k=>by simp[w_heldStringS.d1,mkAll_len]) l [] k rfl (by simp) (fun _ _=>trivial) (fun x _ k=>by simp only[mkStr];omega) h0 (by simp;omega)
 simp only[List.length_nil,Int.natCast_zero] at h
 simp only[w_heldStringS,w_heldStringS.d3,apL,jC,jD,C.L_l]
 rw[h]
 simp[w_heldStringS.d2]
end Go.Ev
namespace Go.Ev
theorem set_get {α:Type} {c:List (List α)} {i:Nat} (h:i<c.length) (r:List α):(c.set i r).getD i []=r:=by
 rw[List.getD_eq_getElem?_getD,List.getElem?_set_self h];rfl
noncomputable def mkSv (_:Sv) (k:Int):Sv×Int:=(⟨mtx k,k+1⟩,k+2)
noncomputable def mkLk (_:Lk) (k:Int):Lk×Int:=(⟨mtx k,k+1⟩,k+2)
theorem w_markPilotServiceS_eq (l:List Sv) (k:Int) (hl:l.length≤1048576) (h0:0≤k) (h1:k≤8000000000000000000):
  w_markPilotServiceS [.i k,.l (l.map Sv.e)]=some [.i (mkAll mkSv l k).2,.l ((mkAll mkSv l k).1.map Sv.e)]:=by
 have h:=mark_loop (K:=8500000000000000000) (P:=fun _=>True) (e:=Sv.e) mkSv 2 (body:=ap3 w_markPilotServiceS.d1) (n:=l.length) hl (by omega)
  (fun i x c k _ hi hc hg k0 k1=>by
   have hic:i<c.length:=by omega
   have e3:((i:Int)<(c.length:Int)):=by omega
   have e4:w64 (k+1)=k+1:=w64_of (by omega) (by omega)
   have e5:w64 (k+1+1)=k+2:=by rw[w64_of (by omega) (by omega)];omega
   simp only[apL,jC,jD,w_markPilotServiceS.d1,C.I_i,C.L_l,e3,decide_true,jR,mtx_eq k0 (show k≤9000000000000000000 by omega),call1,jI,jX,jY,hg,e4,e5,w1 hi (show l.length<big by simp only[big];omega),List.length_set,set_get hic,List.set_set]
   simp[Sv.e,setCs,mkSv])
  (fun k c hc=>by simp[w_markPilotServiceS.d1,hc]) l [] k (by simp) (fun _ _=>trivial) (fun x _ k=>by simp only[mkSv];omega) h0 (by simp;omega)
 simp only[List.length_nil,jB,Int.natCast_zero] at h
 simp only[w_markPilotServiceS,w_markPilotServiceS.d3,apL,jC,jD,C.L_l]
 rw[h]
 simp[w_markPilotServiceS.d2]
theorem w_markPilotLikeS_eq (l:List Lk) (k:Int) (hl:l.length≤1048576) (h0:0≤k) (h1:k≤8000000000000000000):
  w_markPilotLikeS [.i k,.l (l.map Lk.e)]=some [.i (mkAll mkLk l k).2,.l ((mkAll mkLk l k).1.map Lk.e)]:=by
 have h:=mark_loop (K:=8500000000000000000) (P:=fun _=>True) (e:=Lk.e) mkLk 2 (body:=ap3 w_markPilotLikeS.d1) (n:=l.length) hl (by omega)
  (fun i x c k _ hi hc hg k0 k1=>by
   have hic:i<c.length:=by omega
   have e3:((i:Int)<(c.length:Int)):=by omega
   have e4:w64 (k+1)=k+1:=w64_of (by omega) (by omega)
   have e5:w64 (k+1+1)=k+2:=by rw[w64_of (by omega) (by omega)];omega
   simp only[apL,jC,jD,w_markPilotLikeS.d1,C.I_i,C.L_l,e3,decide_true,jR,mtx_eq k0 (show k≤9000000000000000000 by omega),call1,jI,jX,jY,hg,e4,e5,w1 hi (show l.length<big by simp only[big];omega),List.length_set,set_get hic,List.set_set]
   simp[Lk.e,setCs,mkLk])
  (fun k c hc=>by simp[w_markPilotLikeS.d1,hc]) l [] k (by simp) (fun _ _=>trivial) (fun x _ k=>by simp only[mkLk];omega) h0 (by simp;omega)
 simp only[List.length_nil,jB,Int.natCast_zero] at h
 simp only[w_markPilotLikeS,w_markPilotLikeS.d3,apL,jC,jD,C.L_l]
 rw[h]
 simp[w_markPilotLikeS.d2]
end Go.Ev
namespace Go.Ev
theorem w64_up {k:Int} (h0:0≤k) (h1:k≤9000000000000000000):w64 (k+1)=k+1:=w64_of (by omega) (by omega)
theorem setCs_s (a:C) (l:List C) (n:Nat) (m:List C):setCs (a::l) (n+1) m=a::setCs l n m:=by
 have e:n+1+m.length=n+m.length+1:=by omega
 simp only[setCs,List.take_succ_cons,jA,e,List.drop_succ_cons]
theorem setCs_z (a x:C) (l:List C):setCs (a::l) 0 [x]=x::l:=rfl
noncomputable def mkBt (b:Bt) (k:Int):Bt×Int:=
 (⟨mtx k,mtx (k+1),(mkAll mkStr b.marks (k+1+1)).1,(mkAll mkStr b.marks (k+1+1)).2,(mkAll mkStr b.marks (k+1+1)).2+1,((mkAll mkStr b.marks (k+1+1)).2+1+1).tmod 3==0⟩,(mkAll mkStr b.marks (k+1+1)).2+1+1+1)
theorem mkStr_up (l:List Str) (k:Int):k≤(mkAll mkStr l k).2∧(mkAll mkStr l k).2≤k+(l.length:Nat):=by
 have:=mkAll_up mkStr 1 l k (fun x _ k=>by simp only[mkStr];omega)
 omega
theorem mkLk_up (l:List Lk) (k:Int):k≤(mkAll mkLk l k).2∧(mkAll mkLk l k).2≤k+(l.length*2:Nat):=
 mkAll_up mkLk 2 l k (fun x _ k=>by simp only[mkLk];omega)
theorem w_markPilotBerthS_eq (l:List Bt) (k:Int) (hl:l.length≤1048576) (hm:∀b,b∈l→b.marks.length≤1048576) (h0:0≤k) (h1:k≤7000000000000000000):
  w_markPilotBerthS [.i k,.l (l.map Bt.e)]=some [.i (mkAll mkBt l k).2,.l ((mkAll mkBt l k).1.map Bt.e)]:=by
 have h:=mark_loop (K:=7900000000000000000) (P:=fun b:Bt=>b.marks.length≤1048576) (e:=Bt.e) mkBt 1048581 (body:=ap3 w_markPilotBerthS.d3) (n:=l.length) hl (by omega)
  (fun i x c k hx hi hc hg k0 k1=>by
   have hic:i<c.length:=by omega
   have e3:((i:Int)<(c.length:Int)):=by omega
   have hk:=mkStr_up x.marks (k+1+1)
   have hs:=w_markStringS_eq x.marks (k+1+1) hx (by omega) (by omega)
   simp (disch:=omega) only[apL,jC,jD,w_markPilotBerthS.d3,w_markPilotBerthS.d2,w_markPilotBerthS.d1,C.I_i,C.L_l,e3,decide_true,jR,mtx_eq,call1,call2,jI,jJ,jX,jY,hg,w64_up,List.length_set,set_get,List.set_set,Bt.e,setCs_s,setCs_z,hs]
   simp (disch:=omega) [Bt.e,setCs,mkBt,hs,w1,w64_up])
  (fun k c hc=>by simp[w_markPilotBerthS.d3,hc]) l [] k (by simp) hm (fun x hx k=>by have:=mkStr_up x.marks (k+1+1);have:=hm x hx;simp only[mkBt];omega) h0 (by simp;omega)
 simp only[List.length_nil,jB,Int.natCast_zero] at h
 simp only[w_markPilotBerthS,w_markPilotBerthS.d5,apL,jC,jD,C.L_l]
 rw[h]
 simp[w_markPilotBerthS.d4]
noncomputable def mkCp (c:Cp) (k:Int):Cp×Int:=
 (⟨mtx k,mtx (k+1),k+1+1,k+1+1+1,k+1+1+1+1,k+1+1+1+1+1,mtx (k+1+1+1+1+1+1),(mkAll mkLk c.likes (k+1+1+1+1+1+1+1)).1,(mkAll mkLk c.likes (k+1+1+1+1+1+1+1)).2,mtx ((mkAll mkLk c.likes (k+1+1+1+1+1+1+1)).2+1),mtx ((mkAll mkLk c.likes (k+1+1+1+1+1+1+1)).2+1+1),mtx ((mkAll mkLk c.likes (k+1+1+1+1+1+1+1)).2+1+1+1)⟩,(mkAll mkLk c.likes (k+1+1+1+1+1+1+1)).2+1+1+1+1)
theorem w_markPilotCopyS_eq (l:List Cp) (k:Int) (hl:l.length≤1048576) (hm:∀c,c∈l→c.likes.length≤1048576) (h0:0≤k) (h1:k≤7000000000000000000):
  w_markPilotCopyS [.i k,.l (l.map Cp.e)]=some [.i (mkAll mkCp l k).2,.l ((mkAll mkCp l k).1.map Cp.e)]:=by
 have h:=mark_loop (K:=7900000000000000000) (P:=fun c:Cp=>c.likes.length≤1048576) (e:=Cp.e) mkCp 2097170 (body:=ap3 w_markPilotCopyS.d5) (n:=l.length) hl (by omega)
  (fun i x c k hx hi hc hg k0 k1=>by
   have hic:i<c.length:=by omega
   have e3:((i:Int)<(c.length:Int)):=by omega
   have hk:=mkLk_up x.likes (k+1+1+1+1+1+1+1)
   have hs:=w_markPilotLikeS_eq x.likes (k+1+1+1+1+1+1+1) hx (by omega) (by omega)
   simp (disch:=omega) only[apL,jC,jD,w_markPilotCopyS.d5,w_markPilotCopyS.d4,w_markPilotCopyS.d3,w_markPilotCopyS.d2,w_markPilotCopyS.d1,C.I_i,C.L_l,e3,decide_true,jR,mtx_eq,call1,call2,jI,jJ,jX,jY,hg,w64_up,List.length_set,set_get,List.set_set,Cp.e,setCs_s,setCs_z,hs]
   simp (disch:=omega) [mkCp,w1,w64_up])
  (fun k c hc=>by simp[w_markPilotCopyS.d5,hc]) l [] k (by simp) hm (fun x hx k=>by have:=mkLk_up x.likes (k+1+1+1+1+1+1+1);have:=hm x hx;simp only[mkCp];omega) h0 (by simp;omega)
 simp only[List.length_nil,jB,Int.natCast_zero] at h
 simp only[w_markPilotCopyS,w_markPilotCopyS.d7,apL,jC,jD,C.L_l]
 rw[h]
 simp[w_markPilotCopyS.d6]
noncomputable def mkFl (f:Fl) (k:Int):Fl×Int:=
 (⟨f.pack,(mkAll mkBt f.bts k).1,(mkAll mkSv f.svs (mkAll mkBt f.bts k).2).1,(mkAll mkCp f.cps (mkAll mkSv f.svs (mkAll mkBt f.bts k).2).2).1⟩,(mkAll mkCp f.cps (mkAll mkSv f.svs (mkAll mkBt f.bts k).2).2).2)
theorem mkFl_up {f:Fl} (hz:f.Sz 1048576) {k:Int} (h0:0≤k):(k≤(mkAll mkBt f.bts k).2∧(mkAll mkBt f.bts k).2≤k+1099528000000)∧((mkAll mkBt f.bts k).2≤(mkAll mkSv f.svs (mkAll mkBt f.bts k).2).2∧(mkAll mkSv f.svs (mkAll mkBt f.bts k).2).2≤k+1099628000000)∧((mkAll mkSv f.svs (mkAll mkBt f.bts k).2).2≤(mkFl f k).2∧(mkFl f k).2≤k+9999999999999):=by
 have a:=mkAll_up mkBt 1048581 f.bts k (fun x hx k=>by have:=mkStr_up x.marks (k+1+1);have:=(hz.1.2 x hx).2.2.1;simp only[mkBt];omega)
 have b:=mkAll_up mkSv 2 f.svs (mkAll mkBt f.bts k).2 (fun x hx k=>by simp only[mkSv];omega)
 have c:=mkAll_up mkCp 2097170 f.cps (mkAll mkSv f.svs (mkAll mkBt f.bts k).2).2 (fun x hx k=>by have:=mkLk_up x.likes (k+1+1+1+1+1+1+1);have:=(hz.2.2.2 x hx).2.2.2.2.2.2.1;simp only[mkCp];omega)
 have:=hz.1.1;have:=hz.2.1.1;have:=hz.2.2.1
 have e1:f.bts.length*1048581≤1048576*1048581:=Nat.mul_le_mul_right _ hz.1.1
 have e3:f.cps.length*2097170≤1048576*2097170:=Nat.mul_le_mul_right _ hz.2.2.1
 simp only[mkFl]
 omega
theorem w_markPilotFleet_eq {f:Fl} (hz:f.Sz 1048576) {k:Int} (h0:0≤k) (h1:k≤1000000000000000000):
  w_markPilotFleet [.b f.pack,.i k,.l (f.bts.map Bt.e),.l (f.svs.map Sv.e),.l (f.cps.map Cp.e)]=some ([.i (mkFl f k).2,.l ((mkFl f k).1.bts.map Bt.e),.l ((mkFl f k).1.svs.map Sv.e),.l ((mkFl f k).1.cps.map Cp.e)]):=by
 obtain ⟨u1,u2,u3⟩:=mkFl_up hz h0
 have a:=w_markPilotBerthS_eq f.bts k hz.1.1 (fun x hx=>(hz.1.2 x hx).2.2.1) h0 (by omega)
 have b:=w_markPilotServiceS_eq f.svs (mkAll mkBt f.bts k).2 hz.2.1.1 (by omega) (by omega)
 have c:=w_markPilotCopyS_eq f.cps (mkAll mkSv f.svs (mkAll mkBt f.bts k).2).2 hz.2.2.1 (fun x hx=>(hz.2.2.2 x hx).2.2.2.2.2.2.1) (by omega) (by omega)
 simp only[w_markPilotFleet,w_markPilotFleet.d1,apL,jC,jD,C.L_l,a,b,c,call2,jI,jV,mkFl]
end Go.Ev
namespace Go.Ev
end Go.Ev
namespace Go.Ev
theorem ltL {i n:Nat} (h:i<n):decide ((i:Int)<(n:Int))=true:=by simp;omega
end Go.Ev
namespace Go.Ev
section
variable {f:Fl} (hz:f.Sz 1048576)
include hz
end
end Go.Ev
namespace Go.Ev
theorem bytesLess_trans:∀(a b c:List UInt8),Op.bytesLess a b=true→Op.bytesLess b c=true→Op.bytesLess a c=true
 |_,_,[],_,h2=>by cases ‹List UInt8›<;>simp[Op.bytesLess] at h2
 |_,[],_::_,h1,_=>by simp[Op.bytesLess] at h1
 |[],_::_,_::_,_,_=>by simp[Op.bytesLess]
 |x::a,y::b,z::c,h1,h2=>by
  simp only[Op.bytesLess,Bool.or_eq_true,Bool.and_eq_true,decide_eq_true_eq,beq_iff_eq] at h1 h2⊢
  have lt (p q:UInt8):p<q↔p.toNat<q.toNat:=Iff.rfl
  simp only[lt] at h1 h2⊢
  rcases h1 with h1|⟨rfl,h1⟩
  ·rcases h2 with h2|⟨rfl,h2⟩
   ·left;omega
   ·left;exact h1
  ·rcases h2 with h2|⟨rfl,h2⟩
   ·left;exact h2
   ·right;exact ⟨rfl,bytesLess_trans a b c h1 h2⟩
theorem bytesLess_irr:∀(a:List UInt8),Op.bytesLess a a=false
 |[]=>rfl
 |x::r=>by
  have ih:=bytesLess_irr r
  simp only[Op.bytesLess,ih]
  simp
theorem sLt_irr (a:Str):sLt a a=false:=bytesLess_irr _
theorem sLt_trans {a b c:Str} (h1:sLt a b=true) (h2:sLt b c=true):sLt a c=true:=bytesLess_trans _ _ _ h1 h2
theorem adj_lt {α:Type} {lt:α→α→Bool} {l:List α} (ht:∀a b c,lt a b=true→lt b c=true→lt a c=true) (h:∀i (h:i+1<l.length),lt (l[i]'(by omega)) l[i+1]=true):
  ∀(d i:Nat) (hj:i+d+1<l.length),lt (l[i]'(by omega)) l[i+d+1]=true
 |0,i,hj=>h i hj
 |d+1,i,hj=>ht _ _ _ (adj_lt ht h d i (by omega)) (h (i+d+1) (by omega))
def UniqF (l:List Cp):Prop:=∀(i k:Nat) (hi:i<l.length) (hk:k<l.length),sEq l[i].name l[k].name=true→i=k
theorem names_up {f:Fl} (h:validF f=true) (d i:Nat) (hj:i+d+1<f.cps.length):sLt (f.cps[i]'(by omega)).name f.cps[i+d+1].name=true:=by
 refine adj_lt (lt:=fun a b:Cp=>sLt a.name b.name) (fun a b c=>sLt_trans) (fun i hi=>?_) d i hj
 simp only[validF,Bool.and_eq_true] at h
 have:=(allFrom_iff _ _ _).1 h.2.2.2.2.1 (i+1) (Nat.zero_le _) (by omega)
 have hi':i<f.cps.length:=by omega
 have e:(i+1==0)=false:=rfl
 simp only[cpA,List.getElem?_eq_getElem hi,Nat.add_sub_cancel,List.getElem?_eq_getElem hi',e,Bool.false_or,Bool.and_eq_true] at this
 exact this.2.2.1
theorem uniq_of {f:Fl} (h:validF f=true):UniqF f.cps:=by
 have key:∀(i k:Nat) (hi:i<f.cps.length) (hk:k<f.cps.length),i<k→sEq f.cps[i].name f.cps[k].name=true→False:=by
  intro i k hi hk hlt he
  obtain ⟨d,rfl⟩:∃d,k=i+d+1:=⟨k-i-1,by omega⟩
  have:=names_up h d i hk
  rw[(sEq_iff _ _).1 he,sLt_irr] at this
  exact absurd this (by decide)
 intro i k hi hk he
 rcases Nat.lt_trichotomy i k with h1|h1|h1
 ·exact (key i k hi hk h1 he).elim
 ·exact h1
 ·exact (key k i hk hi h1 (by rw[sEq_comm];exact he)).elim
theorem getD_of {α:Type} (e:α→List C) {l:List α} {i:Nat} {x:α} (h:l[i]?=some x):(l.map e).getD i []=e x:=by
 rw[List.getD_eq_getElem?_getD,List.getElem?_map,h];rfl
section
variable {f:Fl} (hz:f.Sz 1048576) (g:List Str) (hg:g.length≤1048576)
include hz hg
end
end Go.Ev
namespace Go.Ev
structure Sp where
 copy:Str
 berth:Str
 gone:List Str
def Sp.e (s:Sp):List C:=[.s s.copy,.s s.berth,.l (s.gone.map sE)]
def Sp.Sz (K:Nat) (s:Sp):Prop:=s.copy.size≤K∧s.berth.size≤K∧SsSz K s.gone
section
variable {f:Fl} (hz:f.Sz 1048576) {s:Sp} (hs:s.Sz 1048576)
include hz hs
end
end Go.Ev
namespace Go.Ev
end Go.Ev
namespace Go.Ev
theorem takeN {α:Type} (p:α→Bool):∀l:List α,l.take (l.takeWhile p).length=l.takeWhile p∧l.drop (l.takeWhile p).length=l.dropWhile p
 |[]=>⟨rfl,rfl⟩
 |x::r=>by
  have ih:=takeN p r
  cases h:p x<;>simp[List.takeWhile,List.dropWhile,h,ih]
end Go.Ev
namespace Go.Ev
section
variable {f:Fl} (hz:f.Sz 1048576) (g:List Str) (hg:SsSz 1048576 g)
include hz hg
end
end Go.Ev
namespace Go.Ev
section
variable {α:Type} (lt:α→α→Bool)
def insK (c:α) (l:List α):Nat:=(l.takeWhile fun x=>lt x c).length
def insQ (c:α) (l:List α):List α:=l.take (insK lt c l)++c::l.drop (insK lt c l)
def insF (l:List α):List α:=l.foldl (fun a c=>insQ lt c a) []
theorem insK_le (c:α) (l:List α):insK lt c l≤l.length:=(List.takeWhile_sublist _).length_le
theorem insQ_perm (c:α) (l:List α):(insQ lt c l).Perm (c::l):=by
 have h:=List.perm_middle (a:=c) (l₁:=l.take (insK lt c l)) (l₂:=l.drop (insK lt c l))
 rw[List.take_append_drop] at h
 exact h
theorem mem_tw {p:α→Bool}:∀ {l:List α} (x:α),x∈l.takeWhile p→p x=true
 |[],x,h=>by simp at h
 |y::r,x,h=>by
  cases hp:p y with
  |false=>simp[List.takeWhile,hp] at h
  |true=>
   simp only[List.takeWhile,hp,List.mem_cons] at h
   rcases h with rfl|h
   ·exact hp
   ·exact mem_tw x h
theorem insQ_sorted (irr:∀x,lt x x=false) (trans:∀x y z,lt x y=true→lt y z=true→lt x z=true) (ntr:∀x y z,lt x y=false→lt y z=false→lt x z=false)
  (c:α) {l:List α} (h:l.Pairwise fun x y=>lt y x=false):(insQ lt c l).Pairwise fun x y=>lt y x=false:=by
 obtain ⟨e1,e2⟩:=takeN (fun x=>lt x c) l
 unfold insQ insK
 rw[e1,e2]
 have h0:=h
 rw[←List.takeWhile_append_dropWhile (p:=fun x=>lt x c) (l:=l),List.pairwise_append] at h0
 obtain ⟨h1,h2,h3⟩:=h0
 have hz:∀y,y∈l.dropWhile (fun x=>lt x c)→lt y c=false:=by
  intro y hy
  cases hd:l.dropWhile (fun x=>lt x c) with
  |nil=>rw[hd] at hy;simp at hy
  |cons z t=>
   have hz:lt z c=false:=by
    have:=List.head_dropWhile_not (p:=fun x=>lt x c) (l:=l) (by rw[hd];simp)
    simpa only[hd,List.head_cons] using this
   rw[hd] at hy h2
   rcases List.mem_cons.1 hy with rfl|hy
   ·exact hz
   ·exact ntr _ _ _ ((List.pairwise_cons.1 h2).1 y hy) hz
 refine List.pairwise_append.2 ⟨h1,List.pairwise_cons.2 ⟨hz,h2⟩,fun x hx y hy=>?_⟩
 have hx':lt x c=true:=mem_tw x hx
 rcases List.mem_cons.1 hy with rfl|hy
 ·cases hq:lt y x with
  |false=>rfl
  |true=>
   have:=trans _ _ _ hx' hq
   rw[irr] at this;cases this
 ·exact h3 x hx y hy
theorem insF_ok (irr:∀x,lt x x=false) (trans:∀x y z,lt x y=true→lt y z=true→lt x z=true) (ntr:∀x y z,lt x y=false→lt y z=false→lt x z=false):
  ∀(l a:List α),(a.Pairwise fun x y=>lt y x=false)→((l.foldl (fun a c=>insQ lt c a) a).Pairwise fun x y=>lt y x=false)∧(l.foldl (fun a c=>insQ lt c a) a).Perm (l++a)
 |[],a,h=>⟨h,.refl _⟩
 |c::l,a,h=>by
  obtain ⟨h1,h2⟩:=insF_ok irr trans ntr l (insQ lt c a) (insQ_sorted lt irr trans ntr c h)
  exact ⟨h1,h2.trans (((insQ_perm lt c a).append_left l).trans List.perm_middle)⟩
theorem insF_snoc (l:List α) (c:α):insF lt (l++[c])=insQ lt c (insF lt l):=by simp[insF,List.foldl_append]
end
def ahd (a b:Cp):Bool:=ltE a.rank a.born a.name b.rank b.born b.name
theorem ahd_irr (x:Cp):ahd x x=false:=ltE_irr _ _ _
theorem ahd_trans (x y z:Cp):ahd x y=true→ahd y z=true→ahd x z=true:=ltE_trans
theorem ahd_ntr (x y z:Cp):ahd x y=false→ahd y z=false→ahd x z=false:=ltE_ntrans
theorem ahd_eq {a b:Cp} (h1:ahd a b=false) (h2:ahd b a=false):sEq a.name b.name=true:=by
 rcases ltE_not h1 with h|⟨_,_,h⟩
 ·have:ahd b a=true:=h
  rw[h2] at this;cases this
 ·rw[sEq_iff]
  have:b.name.data=a.name.data:=Array.toList_inj.1 h
  cases hb:b.name;cases ha:a.name
  rw[ha,hb] at this
  simp only at this
  rw[this]
def waitP (c:Cp):Bool:=sEq c.at_ (mkS [])
def waits (f:Fl):List Cp:=f.cps.filter waitP
def queue (f:Fl):List Cp:=insF ahd (waits f)
theorem queue_perm (f:Fl):(queue f).Perm (waits f):=by
 have:=(insF_ok ahd ahd_irr ahd_trans ahd_ntr (waits f) [] .nil).2
 rwa [List.append_nil] at this
theorem queue_mem {f:Fl} {c:Cp} (h:c∈queue f):c∈f.cps∧waitP c=true:=by
 have:=(queue_perm f).mem_iff.1 h
 exact List.mem_filter.1 this
theorem uniq_mem {l:List Cp} (hu:UniqF l) {x y:Cp} (hx:x∈l) (hy:y∈l) (h:sEq x.name y.name=true):x=y:=by
 obtain ⟨i,hi,rfl⟩:=List.getElem_of_mem hx
 obtain ⟨k,hk,rfl⟩:=List.getElem_of_mem hy
 have:=hu i k hi hk h
 subst this;rfl
theorem queue_sort {f:Fl} (hu:UniqF f.cps):(waits f).mergeSort (fun x y=>!ahd y x)=queue f:=by
 have hw:∀x,x∈waits f→x∈f.cps:=fun x h=>(List.mem_filter.1 h).1
 refine List.Perm.eq_of_pairwise (le:=fun x y=>ahd y x=false) (fun x y hx hy e1 e2=>?_) ?_ (insF_ok ahd ahd_irr ahd_trans ahd_ntr (waits f) [] .nil).1 ((List.mergeSort_perm _ _).trans (queue_perm f).symm)
 ·exact uniq_mem hu (hw _ ((List.mergeSort_perm _ _).mem_iff.1 hx)) (queue_mem hy).1 (ahd_eq e2 e1)
 ·have:=List.pairwise_mergeSort (le:=fun x y:Cp=>!ahd y x)
   (fun x y z e1 e2=>by
    simp only[Bool.not_eq_true'] at*
    exact ahd_ntr _ _ _ e2 e1)
   (fun x y=>by
    cases e1:ahd y x with
    |false=>simp
    |true=>
     cases e2:ahd x y with
     |false=>simp
     |true=>
      have:=ahd_trans _ _ _ e2 e1
      rw[ahd_irr] at this;cases this) (waits f)
  exact this.imp fun {x y} h=>by simpa using h
theorem apart_q:∀ {l:List Cp},(∀x,x∈l→rkOk x.rank x.born=true)→(l.Pairwise fun x y=>sEq x.name y.name=false)→∀ {lt:List C→List C→Bool},(∀x y,x∈l→y∈l→lt x.e y.e=ahd x y)→apartB lt (l.map Cp.e)=true
 |[],_,_,_,_=>rfl
 |x::r,hq,hp,lt,hlt=>by
  simp only[List.map_cons,apartB,Bool.and_eq_true,List.all_eq_true,List.mem_map]
  refine ⟨?_,apart_q (fun y hy=>hq y (by simp[hy])) (List.pairwise_cons.1 hp).2 fun y z hy hz=>hlt y z (by simp[hy]) (by simp[hz])⟩
  rintro _ ⟨y,hy,rfl⟩
  rw[hlt x y (by simp) (by simp[hy]),hlt y x (by simp[hy]) (by simp)]
  cases h1:ahd x y with
  |true=>rfl
  |false=>
   cases h2:ahd y x with
   |true=>rfl
   |false=>
    have:=ahd_eq h1 h2
    rw[(List.pairwise_cons.1 hp).1 y hy] at this;cases this
theorem names_pw {l:List Cp} (hu:UniqF l):l.Pairwise fun x y=>sEq x.name y.name=false:=by
 rw[List.pairwise_iff_getElem]
 intro i j hi hj hij
 cases h:sEq l[i].name l[j].name with
 |false=>rfl
 |true=>
  have:=hu i j hi hj h
  omega
theorem waits_succ (f:Fl) {i:Nat} (h:i<f.cps.length):(f.cps.take (i+1)).filter waitP=bif waitP f.cps[i] then (f.cps.take i).filter waitP++[f.cps[i]] else (f.cps.take i).filter waitP:=by
 rw[List.take_succ_eq_append_getElem h,List.filter_append]
 cases hw:waitP f.cps[i]<;>simp[hw]
theorem waits_len (f:Fl) (i:Nat):((f.cps.take i).filter waitP).length≤f.cps.length:=
 Nat.le_trans (List.length_filter_le _ _) (by rw[List.length_take];omega)
def queueOf (f:Fl):List Str:=bif validF f then (queue f).map Cp.name else []
theorem s_l5Ahead_eq (a b:Cp):s_l5Ahead (a.e++b.e)=some [.b (ahd a b)]:=by
 simp only[s_l5Ahead,s_l5Ahead.d1,Cp.e,jA,jB,apL,jC,jD,C.I_i,C.S_s,ahd,ltE,toList_data']
 by_cases e1:a.rank=b.rank
 ·by_cases e2:a.born=b.born
  ·simp[e1,e2]
  ·have:(a.born !=b.born)=true:=by simp[e2]
   have q:(a.born==b.born)=false:=by simp[e2]
   simp[e1,this,q]
 ·have:(a.rank !=b.rank)=true:=by simp[e1]
  have q:(a.rank==b.rank)=false:=by simp[e1]
  simp[this,q]
section
variable {f:Fl} (hz:f.Sz 1048576)
include hz
theorem i_pQueue_eq (hv:VB f) (hu:UniqF f.cps):i_pQueue f.e=some [.l ((queue f).map Cp.e)]:=by
 have hlc:f.cps.length<big:=by have:=hz.2.2.1;simp only[big];omega
 have h:=run_loop (body:=ap4 i_pQueue.d2) (S:=fun i=>[C.l (f.cps.map Cp.e),C.i (f.cps.length:Nat),C.i (i:Nat),C.l (((f.cps.take i).filter waitP).map Cp.e)]) (n:=f.cps.length) (b:=0) (ys:=[C.l (((f.cps.take f.cps.length).filter waitP).map Cp.e)])
  (fun i hi=>by
   have hn:((f.cps.take i).filter waitP).length+1≤4294967296:=by have:=waits_len f i;have:=hv.n60;omega
   have q0:(((f.cps[i].e.getD 11 C.nil).S).toList==(bs #[]).toList)=waitP f.cps[i]:=rfl
   have hr:∀c:Cp,[c.e.getD 0 .nil,c.e.getD 1 .nil,c.e.getD 2 .nil,c.e.getD 3 .nil,c.e.getD 4 .nil,c.e.getD 5 .nil,c.e.getD 6 .nil,c.e.getD 7 .nil,c.e.getD 8 .nil,c.e.getD 9 .nil,c.e.getD 10 .nil,c.e.getD 11 .nil]=c.e:=fun c=>rfl
   simp only[apL,jC,jD,i_pQueue.d2,C.I_i,C.L_l,jW,ltL hi,decide_true,jR,jX,jY,getD_map' Cp.e hi,q0,waits_succ f hi,rows,List.length_cons,List.length_nil,Nat.zero_add,hn,hr]
   cases waitP f.cps[i]<;>simp[i_pQueue.d1,w1 hi hlc])
  (by simp[i_pQueue.d2]) f.cps.length 0 rfl
 simp only[Int.natCast_zero,List.take_zero,List.filter_nil,List.map_nil,List.take_length] at h
 have hw:∀x,x∈waits f→x∈f.cps:=fun x h=>(List.mem_filter.1 h).1
 have hq:∀x,x∈waits f→rkOk x.rank x.born=true:=fun x h=>by
  have:=hv.cb x (hw x h)
  rw[rkOk_iff];exact ⟨this.2.2.2.1,this.2.2.2.2⟩
 have hlt:∀x y,x∈waits f→y∈waits f→ltR i_pQueue_1 x.e y.e=ahd x y:=fun x y hx hy=>
  lt_rows i_pQueue_1_cmp ⟨⟨_,_,_,_,_,_,_,_,_,rfl⟩,hq x hx⟩ ⟨⟨_,_,_,_,_,_,_,_,_,rfl⟩,hq y hy⟩
 have hS:slices_SortFunc_PilotCopy [.l ((waits f).map Cp.e)]=some [.l ((queue f).map Cp.e)]:=by
  have hl:(waits f).length≤4294967296:=by
   have:=List.length_filter_le waitP f.cps
   have:=hv.n60
   unfold waits;omega
  have ha:((waits f).map Cp.e).all cpQ=true:=by
   rw[List.all_map,List.all_eq_true]
   intro x hx
   exact hq x hx
  have hp:apartB (ltR i_pQueue_1) ((waits f).map Cp.e)=true:=apart_q hq ((names_pw hu).sublist List.filter_sublist) hlt
  have hm:sortQ i_pQueue_1 ((waits f).map Cp.e)=(queue f).map Cp.e:=by
   rw[sortQ,←List.map_mergeSort (r:=fun x y:Cp=>!ahd y x) (s:=fun x y=>!ltR i_pQueue_1 y x) (f:=Cp.e) (fun x hx y hy=>by rw[hlt y x hy hx]),queue_sort hu]
  simp only[slices_SortFunc_PilotCopy,sortQF,jC,C.L_l,jW,hl,decide_true,ha,hp,Bool.and_self,jR,hm]
 simp only[i_pQueue,i_pQueue.d4,Fl.e,apL,jC,jD,C.L_l,jW,show nils=([]:List (List C)) from rfl,h,bindBlk_self,i_pQueue.d3]
 rw[show (f.cps.filter waitP)=waits f from rfl,hS]
 simp[call1]
theorem i_PilotQueue_eq:i_PilotQueue f.e=some [.l ((queueOf f).map sE)]:=by
 have h3:=i_PilotValid_eq hz
 simp only[Fl.e] at h3
 simp only[i_PilotQueue,i_PilotQueue.d3,Fl.e,apL,jC,jD,h3,call1,jI,C.B_b,queueOf]
 cases hv:validF f with
 |false=>rfl
 |true=>
  have hq:=i_pQueue_eq hz (vb_of hv) (uniq_of hv)
  have hql:(queue f).length≤60:=by
   rw[(queue_perm f).length_eq]
   exact Nat.le_trans (List.length_filter_le _ _) (vb_of hv).n60
  generalize queue f=q at hq hql⊢
  have h:=run_loop (body:=ap4 i_PilotQueue.d1) (S:=fun i=>[C.i (q.length:Nat),C.i (i:Nat),C.l (((q.take i).map Cp.name).map sE),C.l (q.map Cp.e)]) (n:=q.length) (b:=0) (ys:=[C.l (((q.take q.length).map Cp.name).map sE)])
   (fun i hi=>by
    have hn:(q.take i).length+1≤4294967296:=by rw[List.length_take];omega
    have hs:[(q[i].e).getD 0 C.nil]=sE q[i].name:=rfl
    simp only[apL,jC,jD,i_PilotQueue.d1,C.I_i,C.L_l,jW,ltL hi,decide_true,jR,jX,jY,getD_map' Cp.e hi,rows,List.length_cons,List.length_nil,Nat.zero_add,hn,hs,w1 hi (show q.length<big by simp only[big];omega),List.take_succ_eq_append_getElem hi,List.map_append]
    rfl)
   (by simp[i_PilotQueue.d1]) q.length 0 rfl
  simp only[Fl.e] at hq
  simp only[Int.natCast_zero,List.take_zero,List.map_nil,List.take_length] at h
  simp only[jZ,jS,jR,hq,jI,jC,C.L_l,jW,show nils=([]:List (List C)) from rfl,h,bindBlk_self,apL,i_PilotQueue.d2,jV]
end
end Go.Ev
namespace Go.Ev
theorem cp_row (c:Cp):[c.e.getD 0 .nil,c.e.getD 1 .nil,c.e.getD 2 .nil,c.e.getD 3 .nil,c.e.getD 4 .nil,c.e.getD 5 .nil,c.e.getD 6 .nil,c.e.getD 7 .nil,c.e.getD 8 .nil,c.e.getD 9 .nil,c.e.getD 10 .nil,c.e.getD 11 .nil]=c.e:=rfl
theorem map_snoc {α:Type} (e:α→List C) (l:List α) (x:α):l.map e++[e x]=(l++[x]).map e:=by simp
section
variable {f:Fl} (hz:f.Sz 1048576)
include hz
theorem ahd_loop {i:Nat} (hi:i<f.cps.length) (L:List Cp) (hL:L.length≤60):lim (ap7 s_l5Queue.d1) ([.i (i:Nat),.i 0]++f.e++[.l (L.map Cp.e)])=some (.brk 2 ([.i (i:Nat),.i (insK ahd f.cps[i] L:Nat)]++f.e++[.l (L.map Cp.e)])):=by
 have hlb:L.length<big:=by simp only[big];omega
 have hle:=insK_le ahd f.cps[i] L
 obtain ⟨e1,e2⟩:=takeN (fun x=>ahd x f.cps[i]) L
 have hA:∀a:Cp,s_l5Ahead [a.e.getD 0 .nil,a.e.getD 1 .nil,a.e.getD 2 .nil,a.e.getD 3 .nil,a.e.getD 4 .nil,a.e.getD 5 .nil,a.e.getD 6 .nil,a.e.getD 7 .nil,a.e.getD 8 .nil,a.e.getD 9 .nil,a.e.getD 10 .nil,a.e.getD 11 .nil,f.cps[i].e.getD 0 .nil,f.cps[i].e.getD 1 .nil,f.cps[i].e.getD 2 .nil,f.cps[i].e.getD 3 .nil,f.cps[i].e.getD 4 .nil,f.cps[i].e.getD 5 .nil,f.cps[i].e.getD 6 .nil,f.cps[i].e.getD 7 .nil,f.cps[i].e.getD 8 .nil,f.cps[i].e.getD 9 .nil,f.cps[i].e.getD 10 .nil,f.cps[i].e.getD 11 .nil]=some [.b (ahd a f.cps[i])]:=fun a=>s_l5Ahead_eq a f.cps[i]
 have h:=run_loop (body:=ap7 s_l5Queue.d1) (S:=fun k=>[.i (i:Nat),.i (k:Nat)]++f.e++[C.l (L.map Cp.e)]) (n:=insK ahd f.cps[i] L) (b:=2) (ys:=[.i (i:Nat),.i (insK ahd f.cps[i] L:Nat)]++f.e++[C.l (L.map Cp.e)])
  (fun k hk=>by
   have hk':k<L.length:=by omega
   have hge:ahd L[k] f.cps[i]=true:=by
    have h1:(L.takeWhile fun x=>ahd x f.cps[i])[k]'hk=L[k]:=(List.takeWhile_prefix (fun x=>ahd x f.cps[i]) (l:=L)).getElem hk
    have:=mem_tw (p:=fun x=>ahd x f.cps[i]) _ (List.getElem_mem hk)
    rw[h1] at this
    exact this
   simp only[Fl.e,jA,jB,apL,jC,jD,s_l5Queue.d1,C.I_i,C.L_l,jW,ltL hk',ltL hi,decide_true,jR,jX,jY,getD_map' Cp.e hk',getD_map' Cp.e hi,w1 hk' hlb,hA,call1,jI,C.B_b,hge])
  (by
   simp only[Fl.e,jA,jB,apL,jC,jD,s_l5Queue.d1,C.I_i,C.L_l,jW]
   rcases Nat.lt_or_ge (insK ahd f.cps[i] L) L.length with h|h
   ·have hlt:ahd L[insK ahd f.cps[i] L] f.cps[i]=false:=by
     have hd:L.drop (insK ahd f.cps[i] L)=L.dropWhile fun x=>ahd x f.cps[i]:=e2
     have hne:L.dropWhile (fun x=>ahd x f.cps[i])≠[]:=by rw[←hd];intro h0;rw[List.drop_eq_nil_iff] at h0;omega
     have:=List.head_dropWhile_not (p:=fun x=>ahd x f.cps[i]) (l:=L) hne
     have h5:(L.drop (insK ahd f.cps[i] L)).head (by rw[hd];exact hne)=L[insK ahd f.cps[i] L]:=by simp[List.head_drop]
     simp only[←hd,h5] at this
     exact this
    simp only[ltL h,ltL hi,decide_true,jR,jX,jY,getD_map' Cp.e h,getD_map' Cp.e hi,hA,call1,jI,jC,C.B_b,hlt,jS]
   ·have:¬(((insK ahd f.cps[i] L:Nat):Int)<(L.length:Int)):=by omega
    simp only[this,decide_false,jS]) (insK ahd f.cps[i] L) 0 rfl
 exact h
theorem s_l5Queue_eq (hv:VB f):s_l5Queue f.e=some [.l (((queue f).map Cp.name).map sE)]:=by
 have hlc:f.cps.length<big:=by have:=hz.2.2.1;simp only[big];omega
 have h:=run_loop (body:=ap6 s_l5Queue.d4) (S:=fun i=>[C.i (i:Nat)]++f.e++[C.l ((insF ahd ((f.cps.take i).filter waitP)).map Cp.e)]) (n:=f.cps.length) (b:=0) (ys:=[C.l ((insF ahd ((f.cps.take f.cps.length).filter waitP)).map Cp.e)])
  (fun i hi=>by
   have hn:((f.cps.take i).filter waitP).length≤60:=by have:=waits_len f i;have:=hv.n60;omega
   have hil:(insF ahd ((f.cps.take i).filter waitP)).length≤60:=by
    have:=(insF_ok ahd ahd_irr ahd_trans ahd_ntr ((f.cps.take i).filter waitP) [] .nil).2.length_eq
    rw[List.append_nil] at this
    simp only[insF];omega
   have q0:(((f.cps[i].e.getD 11 C.nil).S).toList==(bs #[]).toList)=waitP f.cps[i]:=rfl
   have hI:=ahd_loop hz hi _ hil
   have hN:=insK_le ahd f.cps[i] (insF ahd ((f.cps.take i).filter waitP))
   simp only[Fl.e,jA,jB] at hI
   simp only[Fl.e,jA,jB,apL,jC,jD,s_l5Queue.d4,C.I_i,C.L_l,jW,ltL hi,decide_true,jR,jX,jY,getD_map' Cp.e hi,q0,waits_succ f hi]
   cases hw:waitP f.cps[i] with
   |false=>simp[s_l5Queue.d3,w1 hi hlc]
   |true=>
    simp only[jR,jZ,jS,insF_snoc]
    generalize insF ahd ((f.cps.take i).filter waitP)=L at hI hil hN⊢
    rw[hI]
    have q1:((insK ahd f.cps[i] L:Nat):Int)≤(L.length:Int):=by omega
    have q2:0+insK ahd f.cps[i] L≤4294967296:=by omega
    have q3:min (insK ahd f.cps[i] L) L.length=insK ahd f.cps[i] L:=by omega
    have q4:0+insK ahd f.cps[i] L+(0+1)≤4294967296:=by omega
    have q5:0+insK ahd f.cps[i] L+(0+1)+(L.length-insK ahd f.cps[i] L)≤4294967296:=by omega
    simp only[bindBlk_self,apL,jC,jD,s_l5Queue.d2,C.I_i,C.L_l,jW,q1,ltL hi,getD_map' Cp.e hi,cp_row,jX,decide_true,jR,jY,rows,List.length_append,List.length_drop,List.length_take,Nat.sub_zero,List.length_cons,List.length_nil,q2,q3,q4,q5,Int.le_refl,Nat.min_self,List.drop_zero,jB]
    have p1:insK ahd f.cps[i] L≤4294967295:=by omega
    have p2:insK ahd f.cps[i] L+1+(L.length-insK ahd f.cps[i] L)≤4294967296:=by omega
    simp[insQ,List.map_take,List.map_drop,List.take_of_length_le,p1,p2,s_l5Queue.d3,w1 hi hlc])
  (by simp[s_l5Queue.d4,Fl.e]) f.cps.length 0 rfl
 have hql:(queue f).length≤60:=by
  rw[(queue_perm f).length_eq]
  exact Nat.le_trans (List.length_filter_le _ _) hv.n60
 have h0:insF ahd (f.cps.filter waitP)=queue f:=rfl
 simp only[Fl.e,jA,jB,Int.natCast_zero,List.take_zero,List.filter_nil,show insF ahd ([]:List Cp)=[] from rfl,List.map_nil,List.take_length,h0] at h
 generalize queue f=q at h hql⊢
 have h2:=run_loop (body:=ap3 s_l5Queue.d5) (S:=fun i=>[C.i (i:Nat),C.l (q.map Cp.e),C.l (((q.take i).map Cp.name).map sE)]) (n:=q.length) (b:=4) (ys:=[C.l (((q.take q.length).map Cp.name).map sE)])
  (fun i hi=>by
   have hn:(q.take i).length+1≤4294967296:=by rw[List.length_take];omega
   have hs:[(q[i].e).getD 0 C.nil]=sE q[i].name:=rfl
   simp only[apL,jC,jD,s_l5Queue.d5,C.I_i,C.L_l,jW,ltL hi,decide_true,jR,jX,jY,getD_map' Cp.e hi,rows,List.length_cons,List.length_nil,Nat.zero_add,hn,hs,w1 hi (show q.length<big by simp only[big];omega),List.take_succ_eq_append_getElem hi,List.map_append]
   rfl)
  (by simp[s_l5Queue.d5]) q.length 0 rfl
 simp only[Int.natCast_zero,List.take_zero,List.map_nil,List.take_length] at h2
 simp only[s_l5Queue,s_l5Queue.d8,Fl.e,apL,jC,jD,show nils=([]:List (List C)) from rfl,h,bindBlk_self,s_l5Queue.d7,C.L_l,h2,s_l5Queue.d6,jV]
theorem s_PilotQueue_eq:s_PilotQueue f.e=some [.l ((queueOf f).map sE)]:=by
 have h3:=s_PilotValid_eq hz
 simp only[Fl.e] at h3
 simp only[s_PilotQueue,s_PilotQueue.d1,Fl.e,apL,jC,jD,h3,call1,jI,C.B_b,queueOf]
 cases hv:validF f with
 |false=>rfl
 |true=>
  have hq:=s_l5Queue_eq hz (vb_of hv)
  simp only[Fl.e] at hq
  simp only[jZ,jS,jR,hq,jI,jC,C.L_l,jV]
end
theorem FnExactPilotQueue_true (f:Fl) (hz:f.Sz maxLen):w_FnExactPilotQueue f.e=some [.b true]:=by
 have h1:=w_szPilotFleet_eq f 1048576 (by omega) (by omega) hz
 simp only[Fl.e,jA,jB] at h1
 simp only[w_FnExactPilotQueue,w_FnExactPilotQueue.d1,Fl.e,jA,jB,apL,jC,jD,C.S_s]
 rcases h1 with h|⟨n,n0,n1,hz',h⟩
 ·simp[h,call1]
 have hn:¬n<0:=by omega
 have t1:=w_toPilotFleet_eq f hz'
 have t3:=w_eqPilotFleet_eq f hz'
 have s1:=s_PilotQueue_eq hz'
 have s2:=i_PilotQueue_eq hz'
 have mk:=w_markPilotFleet_eq hz' (k:=1) (by omega) (by omega)
 obtain ⟨u1,u2,u3⟩:=mkFl_up hz' (k:=1) (by omega)
 have hm:¬(mkFl f 1).2<0:=by omega
 have hl:(queueOf f).length≤1048576:=by
  unfold queueOf
  cases hv:validF f with
  |false=>simp
  |true=>
   simp only[jR,jW,(queue_perm f).length_eq]
   exact Nat.le_trans (List.length_filter_le _ _) (by have:=(vb_of hv).n60;omega)
 generalize queueOf f=r at s1 s2 hl
 have e1:=w_eqStringS_eq r ⟨hl,fun _ _=>trivial⟩
 have m1:=w_markStringS_eq r 1 hl (by omega) (by omega)
 have m2:=w_heldStringS_eq r 1 hl (by omega) (by omega)
 have m3:=mkStr_up r 1
 have hm3:¬(mkAll mkStr r 1).2<0:=by omega
 simp only[Fl.e,jA,jB] at t1 t3 s1 s2
 simp only[h,t1,t3,s1,s2,mk,e1,m1,m2,call1,call2,call4,jI,jC,jD,C.I_i,C.L_l,C.B_b,C.S_s,hn,hm,hm3,decide_false,jS,jZ,ja,jR,bne_self_eq_false,jV]
end Go.Ev
namespace Go.Ev
theorem dec_list {α:Type} (e:α→List C) (P:α→Prop):∀(es:List (List C)),(∀r,r∈es→∃x,r=e x∧P x)→∃l:List α,es=l.map e∧∀x,x∈l→P x
 |[],_=>⟨[],rfl,fun x h=>by simp at h⟩
 |r::es,h=>by
  obtain ⟨x,rfl,hx⟩:=h r (by simp)
  obtain ⟨l,rfl,hl⟩:=dec_list e P es fun r hr=>h r (by simp[hr])
  exact ⟨x::l,rfl,fun y hy=>by
   rcases List.mem_cons.1 hy with rfl|hy
   ·exact hx
   ·exact hl y hy⟩
theorem db_rows {T:Tys} {e:TypeId} {d:TD} {c:C} (h:DB T (.sl e) c) (hd:tget T e=some d):∃es:List (List C),c=.l es∧es.length≤maxLen∧∀r,r∈es→r.length=d.cts.length∧∀(j:Nat) (c:C) (ct:CT),r[j]?=some c→d.cts[j]?=some ct→DB T ct c:=by
 cases h with
 |l e es h h1 h2=>exact ⟨es,rfl,h,fun r hr=>⟨h1 r d hr hd,fun j c ct=>h2 r d j c ct hr hd⟩⟩
theorem db_str {T:Tys} {c:C} (h:DB T .str c):∃s:Str,c=.s s∧s.size≤maxLen:=by cases h with|s x h=>exact ⟨x,rfl,h⟩
theorem db_int {T:Tys} {k:IntKind} {c:C} (h:DB T (.int k) c):∃n:Int,c=.i n:=by cases h with|i k n h=>exact ⟨n,rfl⟩
theorem db_bool {T:Tys} {c:C} (h:DB T .bool c):∃b:Bool,c=.b b:=by cases h with|b x=>exact ⟨x,rfl⟩
theorem db_strs {c:C} (h:DB T0 (.sl 9) c):∃l:List Str,c=.l (l.map sE)∧SsSz maxLen l:=by
 obtain ⟨es,rfl,hl,hr⟩:=db_rows h (d:=⟨.str,[.str],16⟩) rfl
 obtain ⟨l,rfl,h2⟩:=dec_list sE (fun s=>s.size≤maxLen) es fun r hr'=>by
  obtain ⟨h1,h2⟩:=hr r hr'
  match r,h1 with
  |[c],_=>
   obtain ⟨s,rfl,hs⟩:=db_str (h2 0 c .str rfl rfl)
   exact ⟨s,rfl,hs⟩
 exact ⟨l,rfl,by simpa using hl,h2⟩
theorem db_Bt {c:C} (h:DB T0 (.sl 83) c):∃l:List Bt,c=.l (l.map Bt.e)∧l.length≤maxLen∧∀x,x∈l→(fun x=>x.Sz maxLen) x:=by
 obtain ⟨es,rfl,hl,hr⟩:=db_rows h (d:=⟨(.st [(0,9),(1,9),(2,27),(3,3),(4,3),(5,4)]),[.str,.str,(.sl 9),(.int .i64),(.int .i64),.bool],80⟩) rfl
 obtain ⟨l,rfl,h2⟩:=dec_list Bt.e (fun x=>x.Sz maxLen) es fun r hr'=>by
  obtain ⟨h1,h2⟩:=hr r hr'
  match r,h1 with
  |[x0,x1,x2,x3,x4,x5],_=>
   obtain ⟨x0,rfl,sx0⟩:=db_str (h2 0 x0 _ rfl rfl)
   obtain ⟨x1,rfl,sx1⟩:=db_str (h2 1 x1 _ rfl rfl)
   obtain ⟨x2,rfl,zx2⟩:=db_strs (h2 2 x2 _ rfl rfl)
   obtain ⟨x3,rfl⟩:=db_int (h2 3 x3 _ rfl rfl)
   obtain ⟨x4,rfl⟩:=db_int (h2 4 x4 _ rfl rfl)
   obtain ⟨x5,rfl⟩:=db_bool (h2 5 x5 _ rfl rfl)
   exact ⟨⟨x0,x1,x2,x3,x4,x5⟩,rfl,⟨sx0,sx1,zx2⟩⟩
 exact ⟨l,rfl,by simpa using hl,h2⟩
theorem db_Sv {c:C} (h:DB T0 (.sl 86) c):∃l:List Sv,c=.l (l.map Sv.e)∧l.length≤maxLen∧∀x,x∈l→(fun x=>x.Sz maxLen) x:=by
 obtain ⟨es,rfl,hl,hr⟩:=db_rows h (d:=⟨(.st [(0,9),(1,3)]),[.str,(.int .i64)],24⟩) rfl
 obtain ⟨l,rfl,h2⟩:=dec_list Sv.e (fun x=>x.Sz maxLen) es fun r hr'=>by
  obtain ⟨h1,h2⟩:=hr r hr'
  match r,h1 with
  |[x0,x1],_=>
   obtain ⟨x0,rfl,sx0⟩:=db_str (h2 0 x0 _ rfl rfl)
   obtain ⟨x1,rfl⟩:=db_int (h2 1 x1 _ rfl rfl)
   exact ⟨⟨x0,x1⟩,rfl,sx0⟩
 exact ⟨l,rfl,by simpa using hl,h2⟩
theorem db_Lk {c:C} (h:DB T0 (.sl 159) c):∃l:List Lk,c=.l (l.map Lk.e)∧l.length≤maxLen∧∀x,x∈l→(fun x=>x.sel.size≤maxLen) x:=by
 obtain ⟨es,rfl,hl,hr⟩:=db_rows h (d:=⟨(.st [(0,9),(1,3)]),[.str,(.int .i64)],24⟩) rfl
 obtain ⟨l,rfl,h2⟩:=dec_list Lk.e (fun x=>x.sel.size≤maxLen) es fun r hr'=>by
  obtain ⟨h1,h2⟩:=hr r hr'
  match r,h1 with
  |[x0,x1],_=>
   obtain ⟨x0,rfl,sx0⟩:=db_str (h2 0 x0 _ rfl rfl)
   obtain ⟨x1,rfl⟩:=db_int (h2 1 x1 _ rfl rfl)
   exact ⟨⟨x0,x1⟩,rfl,sx0⟩
 exact ⟨l,rfl,by simpa using hl,h2⟩
theorem db_Cp {c:C} (h:DB T0 (.sl 90) c):∃l:List Cp,c=.l (l.map Cp.e)∧l.length≤maxLen∧∀x,x∈l→(fun x=>x.Sz maxLen) x:=by
 obtain ⟨es,rfl,hl,hr⟩:=db_rows h (d:=⟨(.st [(0,9),(1,9),(2,3),(3,3),(4,3),(5,3),(6,9),(7,88),(8,3),(9,9),(10,9),(11,9)]),[.str,.str,(.int .i64),(.int .i64),(.int .i64),(.int .i64),.str,(.sl 159),(.int .i64),.str,.str,.str],160⟩) rfl
 obtain ⟨l,rfl,h2⟩:=dec_list Cp.e (fun x=>x.Sz maxLen) es fun r hr'=>by
  obtain ⟨h1,h2⟩:=hr r hr'
  match r,h1 with
  |[x0,x1,x2,x3,x4,x5,x6,x7,x8,x9,x10,x11],_=>
   obtain ⟨x0,rfl,sx0⟩:=db_str (h2 0 x0 _ rfl rfl)
   obtain ⟨x1,rfl,sx1⟩:=db_str (h2 1 x1 _ rfl rfl)
   obtain ⟨x2,rfl⟩:=db_int (h2 2 x2 _ rfl rfl)
   obtain ⟨x3,rfl⟩:=db_int (h2 3 x3 _ rfl rfl)
   obtain ⟨x4,rfl⟩:=db_int (h2 4 x4 _ rfl rfl)
   obtain ⟨x5,rfl⟩:=db_int (h2 5 x5 _ rfl rfl)
   obtain ⟨x6,rfl,sx6⟩:=db_str (h2 6 x6 _ rfl rfl)
   obtain ⟨x7,rfl,zx7⟩:=db_Lk (h2 7 x7 _ rfl rfl)
   obtain ⟨x8,rfl⟩:=db_int (h2 8 x8 _ rfl rfl)
   obtain ⟨x9,rfl,sx9⟩:=db_str (h2 9 x9 _ rfl rfl)
   obtain ⟨x10,rfl,sx10⟩:=db_str (h2 10 x10 _ rfl rfl)
   obtain ⟨x11,rfl,sx11⟩:=db_str (h2 11 x11 _ rfl rfl)
   exact ⟨⟨x0,x1,x2,x3,x4,x5,x6,x7,x8,x9,x10,x11⟩,rfl,⟨sx0,sx1,sx6,sx9,sx10,sx11,zx7⟩⟩
 exact ⟨l,rfl,by simpa using hl,h2⟩
abbrev ctsFl:List CT:=[.bool,(.sl 83),(.sl 86),(.sl 90)]
theorem rd_Fl {w:World} {vs:List Value} {xs:List C} (h:Rd T0 w ctsFl vs xs):∃f:Fl,xs=f.e∧f.Sz maxLen:=by
 obtain ⟨h1,_,_,h2⟩:=h
 match xs,h1 with
 |[x0,x1,x2,x3],_=>
  obtain ⟨x0,rfl⟩:=db_bool (h2 0 x0 _ rfl rfl)
  obtain ⟨x1,rfl,zx1⟩:=db_Bt (h2 1 x1 _ rfl rfl)
  obtain ⟨x2,rfl,zx2⟩:=db_Sv (h2 2 x2 _ rfl rfl)
  obtain ⟨x3,rfl,zx3⟩:=db_Cp (h2 3 x3 _ rfl rfl)
  exact ⟨⟨x0,x1,x2,x3⟩,rfl,⟨zx1,zx2,zx3⟩⟩
end Go.Ev
