/- Proved here: the law FnExactPilotNextCard of the given program answers true at every input, and leaves the input as it was; no condition. This text: lemmas on the way (an evaluator of the program's code, sound once for all; the functions it prints; plain proofs on these). -/
import Derived.Test.YtoinabkfcpldmaaGreatDoorP4
set_option linter.all false
set_option autoImplicit false
set_option maxRecDepth 8000
namespace Go.Ev
theorem mkBy1 (x:C):(mkBy [[x]]).size=1:=rfl
theorem mt_loop:∀(d:Nat) (k:Int) (o:Str),0≤k→k<10^d→k≤9000000000000000000→o.size+d≤1000→∃s:Str,lim (ap2 w_markText.d1) [.i k,.s o]=some (.brk 0 [.s s])∧s.size≤o.size+d
 |0,k,o,h0,h1,_,h2=>by
  have:k=0:=by simp at h1;omega
  subst this
  exact ⟨o,lim_brk (by simp[w_markText.d1]),by omega⟩
 |d+1,k,o,h0,h1,h3,h2=>by
  by_cases hk:k>0
  ·have e1:w64 (k.tdiv 10)=k/10:=by
    have:k.tdiv 10=k/10:=Int.tdiv_eq_ediv_of_nonneg h0
    rw[this,w64_of (by omega) (by omega)]
   have hs:((mkBy [[C.i (IntKind.wrap .u8 (w64 (48+k.tmod 10)))]])++o).size=1+o.size:=by rw[ByteArray.size_append,mkBy1]
   obtain ⟨s,h4,h5⟩:=mt_loop d (k/10) ((mkBy [[C.i (IntKind.wrap .u8 (w64 (48+k.tmod 10)))]])++o) (by omega) (by rw[Int.pow_succ] at h1;omega) (by omega) (by omega)
   refine ⟨s,?_,by omega⟩
   rw[←h4]
   refine lim_again ?_
   have:(mkBy [[C.i (IntKind.wrap .u8 (w64 (48+k.tmod 10)))]]).size+o.size≤4294967296:=by rw[mkBy1];omega
   simp only[w_markText.d1,apL,jC,jD,C.I_i,C.S_s,hk,decide_true,jR,e1,this]
  ·have:k=0:=by omega
   subst this
   exact ⟨o,lim_brk (by simp[w_markText.d1]),by omega⟩
noncomputable def mtx (k:Int):Str:=match w_markText [.i k] with|some [.s s]=>s|_=>mkS []
theorem mtx_eq {k:Int} (h0:0≤k) (h1:k≤9000000000000000000):w_markText [.i k]=some [.s (mtx k)]:=by
 have key:∃s,w_markText [.i k]=some [.s s]:=by
  by_cases hk:k≤0
  ·exact ⟨bs #[109,48],by simp only[w_markText,w_markText.d3,apL,jC,C.I_i,hk,decide_true,jR,jV]⟩
  ·obtain ⟨s,h2,h3⟩:=mt_loop 19 k (bs #[]) h0 (by omega) h1 (by decide)
   have h3:s.size≤19:=by have e:(bs #[]).size=0:=rfl;omega
   have:(bs #[109]).size+s.size≤4294967296:=by have:(bs #[109]).size=1:=rfl;omega
   exact ⟨bs #[109]++s,by simp only[w_markText,w_markText.d3,apL,jC,C.I_i,hk,decide_false,jS,h2,bindBlk_self,w_markText.d2,C.S_s,this,decide_true,jR,jV]⟩
 obtain ⟨s,h⟩:=key
 rw[h]
 simp[mtx,h]
end Go.Ev
namespace Go.Ev
noncomputable def mkStr (_:Str) (k:Int):Str×Int:=(mtx k,k+1)
theorem w_markStringS_eq (l:List Str) (k:Int) (hl:l.length≤1048576) (h0:0≤k) (h1:k≤8000000000000000000):
  w_markStringS [.i k,.l (l.map sE)]=some [.i (mkAll mkStr l k).2,.l ((mkAll mkStr l k).1.map sE)]:=by
 have h:=mark_loop (K:=8500000000000000000) (P:=fun _=>True) (e:=sE) mkStr 1 (body:=ap3 w_markStringS.d1) (n:=l.length) hl (by omega)
  (fun i x c k _ hi hc hg k0 k1=>by
   have e3:((i:Int)<(c.length:Int)):=by omega
   have e4:w64 (k+1)=k+1:=w64_of (by omega) (by omega)
   simp only[apL,jC,jD,w_markStringS.d1,C.I_i,C.L_l,e3,decide_true,jR,mtx_eq k0 (show k≤9000000000000000000 by omega),call1,jI,jX,jY,hg,e4,w1 hi (show l.length<big by simp only[big];omega)]
   simp[sE,setCs,mkStr])
  (fun k c hc=>by simp[w_markStringS.d1,hc]) l [] k (by simp) (fun _ _=>trivial) (fun x _ k=>by simp only[mkStr];omega) h0 (by simp;omega)
 simp only[List.length_nil,jB,Int.natCast_zero] at h
 simp only[w_markStringS,w_markStringS.d3,apL,jC,jD,C.L_l]
 rw[h]
 simp[w_markStringS.d2]
theorem held_loop {α:Type} {e:α→List C} {P:α→Prop} (mk:α→Int→α×Int) (D:Nat) {body:List C→R} {n:Nat} {L:List (List C)} {K:Int} (hn:n≤1048576) (hD:D≤4294967296)
  (hb:∀(i:Nat) (x:α) (k:Int),P x→i<n→L.getD i []=e (mk x k).1→0≤k→k≤K→body [.l L,.i k,.i i]=some (.again [.l L,.i (mk x k).2,.i (i+1:Nat)]))
  (he:∀(k:Int),body [.l L,.i k,.i n]=some (.brk 0 [.i k])):
  ∀(r:List α) (p:List (List C)) (k:Int),L=p++(mkAll mk r k).1.map e→p.length+r.length=n→(∀x,x∈r→P x)→(∀x,x∈r→∀k,k≤(mk x k).2∧(mk x k).2≤k+D)→0≤k→k+(r.length*D:Nat)≤K→
   lim body [.l L,.i k,.i p.length]=some (.brk 0 [.i (mkAll mk r k).2])
 |[],p,k,_,h,_,_,_,_=>by
  simp only[List.length_nil,Nat.add_zero] at h
  rw[h]
  exact lim_brk (he k)
 |x::r,p,k,hL,h,hp,hm,k0,k1=>by
  simp only[List.length_cons,Nat.succ_mul] at h k1
  have hx:=hm x (by simp) k
  have hg:L.getD p.length []=e (mk x k).1:=by
   rw[hL,List.getD_eq_getElem?_getD,List.getElem?_append_right (Nat.le_refl _),Nat.sub_self];rfl
  rw[lim_again (hb p.length x k (hp x (by simp)) (by omega) hg k0 (by omega))]
  have ih:=held_loop mk D hn hD hb he r (p++[e (mk x k).1]) (mk x k).2 (by rw[hL];simp[mkAll]) (by simp;omega) (fun y hy=>hp y (by simp[hy])) (fun y hy=>hm y (by simp[hy])) (by omega) (by omega)
  rw[List.length_append,List.length_singleton] at ih
  rw[ih]
  simp[mkAll]
theorem w_heldStringS_eq (l:List Str) (k:Int) (hl:l.length≤1048576) (h0:0≤k) (h1:k≤8000000000000000000):
  w_heldStringS [.l ((mkAll mkStr l k).1.map sE),.i k]=some [.i (mkAll mkStr l k).2]:=by
 have hlen:((mkAll mkStr l k).1.map sE).length=l.length:=by rw[jW,mkAll_len]
 have h:=held_loop (K:=8500000000000000000) (P:=fun _=>True) (e:=sE) mkStr 1 (body:=ap3 w_heldStringS.d1) (n:=l.length) (L:=(mkAll mkStr l k).1.map sE) hl (by omega)
  (fun i x k _ hi hg k0 k1=>by
   have e3:((i:Int)<(l.length:Int)):=by omega
   have e4:w64 (k+1)=k+1:=w64_of (by omega) (by omega)
   simp only[apL,jC,jD,w_heldStringS.d1,C.I_i,C.L_l,hlen,e3,decide_true,jR,mtx_eq k0 (show k≤9000000000000000000 by omega),call1,jI,jX,jY,hg,e4,w1 hi (show l.length<big by simp only[big];omega)]
   simp[sE,mkStr])
  (fun k=>by simp[w_heldStringS.d1,mkAll_len]) l [] k rfl (by simp) (fun _ _=>trivial) (fun x _ k=>by simp only[mkStr];omega) h0 (by simp;omega)
 simp only[List.length_nil,Int.natCast_zero] at h
 simp only[w_heldStringS,w_heldStringS.d3,apL,jC,jD,C.L_l]
 rw[h]
 simp[w_heldStringS.d2]
end Go.Ev
namespace Go.Ev
theorem set_get {α:Type} {c:List (List α)} {i:Nat} (h:i<c.length) (r:List α):(c.set i r).getD i []=r:=by
 rw[List.getD_eq_getElem?_getD,List.getElem?_set_self h];rfl
noncomputable def mkSv (_:Sv) (k:Int):Sv×Int:=(⟨mtx k,k+1⟩,k+2)
noncomputable def mkLk (_:Lk) (k:Int):Lk×Int:=(⟨mtx k,k+1⟩,k+2)
theorem w_markPilotServiceS_eq (l:List Sv) (k:Int) (hl:l.length≤1048576) (h0:0≤k) (h1:k≤8000000000000000000):
  w_markPilotServiceS [.i k,.l (l.map Sv.e)]=some [.i (mkAll mkSv l k).2,.l ((mkAll mkSv l k).1.map Sv.e)]:=by
 have h:=mark_loop (K:=8500000000000000000) (P:=fun _=>True) (e:=Sv.e) mkSv 2 (body:=ap3 w_markPilotServiceS.d1) (n:=l.length) hl (by omega)
  (fun i x c k _ hi hc hg k0 k1=>by
   have hic:i<c.length:=by omega
   have e3:((i:Int)<(c.length:Int)):=by omega
   have e4:w64 (k+1)=k+1:=w64_of (by omega) (by omega)
   have e5:w64 (k+1+1)=k+2:=by rw[w64_of (by omega) (by omega)];omega
   simp only[apL,jC,jD,w_markPilotServiceS.d1,C.I_i,C.L_l,e3,decide_true,jR,mtx_eq k0 (show k≤9000000000000000000 by omega),call1,jI,jX,jY,hg,e4,e5,w1 hi (show l.length<big by simp only[big];omega),List.length_set,set_get hic,List.set_set]
   simp[Sv.e,setCs,mkSv])
  (fun k c hc=>by simp[w_markPilotServiceS.d1,hc]) l [] k (by simp) (fun _ _=>trivial) (fun x _ k=>by simp only[mkSv];omega) h0 (by simp;omega)
 simp only[List.length_nil,jB,Int.natCast_zero] at h
 simp only[w_markPilotServiceS,w_markPilotServiceS.d3,apL,jC,jD,C.L_l]
 rw[h]
 simp[w_markPilotServiceS.d2]
theorem w_markPilotLikeS_eq (l:List Lk) (k:Int) (hl:l.length≤1048576) (h0:0≤k) (h1:k≤8000000000000000000):
  w_markPilotLikeS [.i k,.l (l.map Lk.e)]=some [.i (mkAll mkLk l k).2,.l ((mkAll mkLk l k).1.map Lk.e)]:=by
 have h:=mark_loop (K:=8500000000000000000) (P:=fun _=>True) (e:=Lk.e) mkLk 2 (body:=ap3 w_markPilotLikeS.d1) (n:=l.length) hl (by omega)
  (fun i x c k _ hi hc hg k0 k1=>by
   have hic:i<c.length:=by omega
   have e3:((i:Int)<(c.length:Int)):=by omega
   have e4:w64 (k+1)=k+1:=w64_of (by omega) (by omega)
   have e5:w64 (k+1+1)=k+2:=by rw[w64_of (by omega) (by omega)];omega
   simp only[apL,jC,jD,w_markPilotLikeS.d1,C.I_i,C.L_l,e3,decide_true,jR,mtx_eq k0 (show k≤9000000000000000000 by omega),call1,jI,jX,jY,hg,e4,e5,w1 hi (show l.length<big by simp only[big];omega),List.length_set,set_get hic,List.set_set]
   simp[Lk.e,setCs,mkLk])
  (fun k c hc=>by simp[w_markPilotLikeS.d1,hc]) l [] k (by simp) (fun _ _=>trivial) (fun x _ k=>by simp only[mkLk];omega) h0 (by simp;omega)
 simp only[List.length_nil,jB,Int.natCast_zero] at h
 simp only[w_markPilotLikeS,w_markPilotLikeS.d3,apL,jC,jD,C.L_l]
 rw[h]
 simp[w_markPilotLikeS.d2]
end Go.Ev
namespace Go.Ev
theorem w64_up {k:Int} (h0:0≤k) (h1:k≤9000000000000000000):w64 (k+1)=k+1:=w64_of (by omega) (by omega)
theorem setCs_s (a:C) (l:List C) (n:Nat) (m:List C):setCs (a::l) (n+1) m=a::setCs l n m:=by
 have e:n+1+m.length=n+m.length+1:=by omega
 simp only[setCs,List.take_succ_cons,jA,e,List.drop_succ_cons]
theorem setCs_z (a x:C) (l:List C):setCs (a::l) 0 [x]=x::l:=rfl
noncomputable def mkBt (b:Bt) (k:Int):Bt×Int:=
 (⟨mtx k,mtx (k+1),(mkAll mkStr b.marks (k+1+1)).1,(mkAll mkStr b.marks (k+1+1)).2,(mkAll mkStr b.marks (k+1+1)).2+1,((mkAll mkStr b.marks (k+1+1)).2+1+1).tmod 3==0⟩,(mkAll mkStr b.marks (k+1+1)).2+1+1+1)
theorem mkStr_up (l:List Str) (k:Int):k≤(mkAll mkStr l k).2∧(mkAll mkStr l k).2≤k+(l.length:Nat):=by
 have:=mkAll_up mkStr 1 l k (fun x _ k=>by simp only[mkStr];omega)
 omega
theorem mkLk_up (l:List Lk) (k:Int):k≤(mkAll mkLk l k).2∧(mkAll mkLk l k).2≤k+(l.length*2:Nat):=
 mkAll_up mkLk 2 l k (fun x _ k=>by simp only[mkLk];omega)
theorem w_markPilotBerthS_eq (l:List Bt) (k:Int) (hl:l.length≤1048576) (hm:∀b,b∈l→b.marks.length≤1048576) (h0:0≤k) (h1:k≤7000000000000000000):
  w_markPilotBerthS [.i k,.l (l.map Bt.e)]=some [.i (mkAll mkBt l k).2,.l ((mkAll mkBt l k).1.map Bt.e)]:=by
 have h:=mark_loop (K:=7900000000000000000) (P:=fun b:Bt=>b.marks.length≤1048576) (e:=Bt.e) mkBt 1048581 (body:=ap3 w_markPilotBerthS.d3) (n:=l.length) hl (by omega)
  (fun i x c k hx hi hc hg k0 k1=>by
   have hic:i<c.length:=by omega
   have e3:((i:Int)<(c.length:Int)):=by omega
   have hk:=mkStr_up x.marks (k+1+1)
   have hs:=w_markStringS_eq x.marks (k+1+1) hx (by omega) (by omega)
   simp (disch:=omega) only[apL,jC,jD,w_markPilotBerthS.d3,w_markPilotBerthS.d2,w_markPilotBerthS.d1,C.I_i,C.L_l,e3,decide_true,jR,mtx_eq,call1,call2,jI,jJ,jX,jY,hg,w64_up,List.length_set,set_get,List.set_set,Bt.e,setCs_s,setCs_z,hs]
   simp (disch:=omega) [Bt.e,setCs,mkBt,hs,w1,w64_up])
  (fun k c hc=>by simp[w_markPilotBerthS.d3,hc]) l [] k (by simp) hm (fun x hx k=>by have:=mkStr_up x.marks (k+1+1);have:=hm x hx;simp only[mkBt];omega) h0 (by simp;omega)
 simp only[List.length_nil,jB,Int.natCast_zero] at h
 simp only[w_markPilotBerthS,w_markPilotBerthS.d5,apL,jC,jD,C.L_l]
 rw[h]
 simp[w_markPilotBerthS.d4]
noncomputable def mkCp (c:Cp) (k:Int):Cp×Int:=
 (⟨mtx k,mtx (k+1),k+1+1,k+1+1+1,k+1+1+1+1,k+1+1+1+1+1,mtx (k+1+1+1+1+1+1),(mkAll mkLk c.likes (k+1+1+1+1+1+1+1)).1,(mkAll mkLk c.likes (k+1+1+1+1+1+1+1)).2,mtx ((mkAll mkLk c.likes (k+1+1+1+1+1+1+1)).2+1),mtx ((mkAll mkLk c.likes (k+1+1+1+1+1+1+1)).2+1+1),mtx ((mkAll mkLk c.likes (k+1+1+1+1+1+1+1)).2+1+1+1)⟩,(mkAll mkLk c.likes (k+1+1+1+1+1+1+1)).2+1+1+1+1)
theorem w_markPilotCopyS_eq (l:List Cp) (k:Int) (hl:l.length≤1048576) (hm:∀c,c∈l→c.likes.length≤1048576) (h0:0≤k) (h1:k≤7000000000000000000):
  w_markPilotCopyS [.i k,.l (l.map Cp.e)]=some [.i (mkAll mkCp l k).2,.l ((mkAll mkCp l k).1.map Cp.e)]:=by
 have h:=mark_loop (K:=7900000000000000000) (P:=fun c:Cp=>c.likes.length≤1048576) (e:=Cp.e) mkCp 2097170 (body:=ap3 w_markPilotCopyS.d5) (n:=l.length) hl (by omega)
  (fun i x c k hx hi hc hg k0 k1=>by
   have hic:i<c.length:=by omega
   have e3:((i:Int)<(c.length:Int)):=by omega
   have hk:=mkLk_up x.likes (k+1+1+1+1+1+1+1)
   have hs:=w_markPilotLikeS_eq x.likes (k+1+1+1+1+1+1+1) hx (by omega) (by omega)
   simp (disch:=omega) only[apL,jC,jD,w_markPilotCopyS.d5,w_markPilotCopyS.d4,w_markPilotCopyS.d3,w_markPilotCopyS.d2,w_markPilotCopyS.d1,C.I_i,C.L_l,e3,decide_true,jR,mtx_eq,call1,call2,jI,jJ,jX,jY,hg,w64_up,List.length_set,set_get,List.set_set,Cp.e,setCs_s,setCs_z,hs]
   simp (disch:=omega) [mkCp,w1,w64_up])
  (fun k c hc=>by simp[w_markPilotCopyS.d5,hc]) l [] k (by simp) hm (fun x hx k=>by have:=mkLk_up x.likes (k+1+1+1+1+1+1+1);have:=hm x hx;simp only[mkCp];omega) h0 (by simp;omega)
 simp only[List.length_nil,jB,Int.natCast_zero] at h
 simp only[w_markPilotCopyS,w_markPilotCopyS.d7,apL,jC,jD,C.L_l]
 rw[h]
 simp[w_markPilotCopyS.d6]
noncomputable def mkFl (f:Fl) (k:Int):Fl×Int:=
 (⟨f.pack,(mkAll mkBt f.bts k).1,(mkAll mkSv f.svs (mkAll mkBt f.bts k).2).1,(mkAll mkCp f.cps (mkAll mkSv f.svs (mkAll mkBt f.bts k).2).2).1⟩,(mkAll mkCp f.cps (mkAll mkSv f.svs (mkAll mkBt f.bts k).2).2).2)
theorem mkFl_up {f:Fl} (hz:f.Sz 1048576) {k:Int} (h0:0≤k):(k≤(mkAll mkBt f.bts k).2∧(mkAll mkBt f.bts k).2≤k+1099528000000)∧((mkAll mkBt f.bts k).2≤(mkAll mkSv f.svs (mkAll mkBt f.bts k).2).2∧(mkAll mkSv f.svs (mkAll mkBt f.bts k).2).2≤k+1099628000000)∧((mkAll mkSv f.svs (mkAll mkBt f.bts k).2).2≤(mkFl f k).2∧(mkFl f k).2≤k+9999999999999):=by
 have a:=mkAll_up mkBt 1048581 f.bts k (fun x hx k=>by have:=mkStr_up x.marks (k+1+1);have:=(hz.1.2 x hx).2.2.1;simp only[mkBt];omega)
 have b:=mkAll_up mkSv 2 f.svs (mkAll mkBt f.bts k).2 (fun x hx k=>by simp only[mkSv];omega)
 have c:=mkAll_up mkCp 2097170 f.cps (mkAll mkSv f.svs (mkAll mkBt f.bts k).2).2 (fun x hx k=>by have:=mkLk_up x.likes (k+1+1+1+1+1+1+1);have:=(hz.2.2.2 x hx).2.2.2.2.2.2.1;simp only[mkCp];omega)
 have:=hz.1.1;have:=hz.2.1.1;have:=hz.2.2.1
 have e1:f.bts.length*1048581≤1048576*1048581:=Nat.mul_le_mul_right _ hz.1.1
 have e3:f.cps.length*2097170≤1048576*2097170:=Nat.mul_le_mul_right _ hz.2.2.1
 simp only[mkFl]
 omega
theorem w_markPilotFleet_eq {f:Fl} (hz:f.Sz 1048576) {k:Int} (h0:0≤k) (h1:k≤1000000000000000000):
  w_markPilotFleet [.b f.pack,.i k,.l (f.bts.map Bt.e),.l (f.svs.map Sv.e),.l (f.cps.map Cp.e)]=some ([.i (mkFl f k).2,.l ((mkFl f k).1.bts.map Bt.e),.l ((mkFl f k).1.svs.map Sv.e),.l ((mkFl f k).1.cps.map Cp.e)]):=by
 obtain ⟨u1,u2,u3⟩:=mkFl_up hz h0
 have a:=w_markPilotBerthS_eq f.bts k hz.1.1 (fun x hx=>(hz.1.2 x hx).2.2.1) h0 (by omega)
 have b:=w_markPilotServiceS_eq f.svs (mkAll mkBt f.bts k).2 hz.2.1.1 (by omega) (by omega)
 have c:=w_markPilotCopyS_eq f.cps (mkAll mkSv f.svs (mkAll mkBt f.bts k).2).2 hz.2.2.1 (fun x hx=>(hz.2.2.2 x hx).2.2.2.2.2.2.1) (by omega) (by omega)
 simp only[w_markPilotFleet,w_markPilotFleet.d1,apL,jC,jD,C.L_l,a,b,c,call2,jI,jV,mkFl]
end Go.Ev
namespace Go.Ev
end Go.Ev
namespace Go.Ev
theorem ltL {i n:Nat} (h:i<n):decide ((i:Int)<(n:Int))=true:=by simp;omega
end Go.Ev
namespace Go.Ev
theorem snoc_take {α:Type} (e:α→List C) {l:List α} {i:Nat} (h:i<l.length):(l.take i).map e++[e l[i]]=(l.take (i+1)).map e:=by
 rw[List.take_succ_eq_append_getElem h,List.map_append];rfl
theorem i_pCloneBerth_eq {b:Bt} (h:b.marks.length≤1048576):i_pCloneBerth b.e=some b.o:=by
 have:b.marks.length≤4294967296:=by omega
 simp[i_pCloneBerth,i_pCloneBerth.d1,Bt.e,Bt.o,this]
theorem s_l2BerthOf_eq {b:Bt} (h:b.marks.length≤1048576):s_l2BerthOf b.e=some b.o:=by
 have:b.marks.length≤4294967296:=by omega
 simp[s_l2BerthOf,s_l2BerthOf.d1,Bt.e,Bt.o,this]
theorem i_pCloneCopy_eq {c:Cp} (h:c.likes.length≤1048576):i_pCloneCopy c.e=some c.o:=by
 have:c.likes.length≤4294967296:=by omega
 simp[i_pCloneCopy,i_pCloneCopy.d1,Cp.e,Cp.o,this]
theorem s_l2CopyOf_eq {c:Cp} (h:c.likes.length≤1048576):s_l2CopyOf c.e=some c.o:=by
 have:c.likes.length≤4294967296:=by omega
 simp[s_l2CopyOf,s_l2CopyOf.d1,Cp.e,Cp.o,this]
section
variable {f:Fl} (hz:f.Sz 1048576)
include hz
theorem i_pClone_eq:i_pClone f.e=some f.e:=by
 have hlb:f.bts.length<big:=by have:=hz.1.1;simp only[big];omega
 have hlc:f.cps.length<big:=by have:=hz.2.2.1;simp only[big];omega
 have h1:=run_loop (body:=ap15 i_pClone.d1) (S:=fun i=>[C.l (f.bts.map Bt.e),C.i (f.bts.length:Nat),C.i (i:Nat)]++f.e++[C.b false,C.b f.pack,.l nils,.l nils,.l nils,C.l ((f.bts.take i).map Bt.e),C.l (f.svs.map Sv.e),.l nils]) (n:=f.bts.length) (b:=0) (ys:=f.e++[C.b false,C.b f.pack,.l nils,.l nils,.l nils,C.l ((f.bts.take f.bts.length).map Bt.e),C.l (f.svs.map Sv.e),.l nils])
  (fun i hi=>by
   have hc:=i_pCloneBerth_eq (hz.1.2 _ (List.getElem_mem hi)).2.2.1
   have hn:(f.bts.take i).length+1≤4294967296:=by rw[List.length_take];have:=hz.1.1;omega
   have sn:=snoc_take Bt.e hi
   simp only[Bt.e,Bt.o] at hc
   simp only[Fl.e,jA,jB,apL,jC,jD,i_pClone.d1,C.I_i,C.L_l,jW,jY,getD_map' Bt.e hi,ltL hi,decide_true,jR,jX,w1 hi hlb]
   simp only[Bt.e] at sn
   simp only[Bt.e,jC,jD,hc,call6,jI,C.L_l,rows,List.length_cons,List.length_nil,Nat.zero_add,hn,decide_true,jR,sn])
  (by simp[i_pClone.d1,Fl.e]) f.bts.length 0 rfl
 have h2:=run_loop (body:=ap11 i_pClone.d2) (S:=fun i=>[C.l (f.cps.map Cp.e),C.i (f.cps.length:Nat),C.i (i:Nat)]++[C.b false,C.b f.pack,.l nils,.l nils,.l nils,C.l (f.bts.map Bt.e),C.l (f.svs.map Sv.e),C.l ((f.cps.take i).map Cp.e)]) (n:=f.cps.length) (b:=2) (ys:=[C.b false,C.b f.pack,.l nils,.l nils,.l nils,C.l (f.bts.map Bt.e),C.l (f.svs.map Sv.e),C.l ((f.cps.take f.cps.length).map Cp.e)])
  (fun i hi=>by
   have hc:=i_pCloneCopy_eq (hz.2.2.2 _ (List.getElem_mem hi)).2.2.2.2.2.2.1
   have hn:(f.cps.take i).length+1≤4294967296:=by rw[List.length_take];have:=hz.2.2.1;omega
   have sn:=snoc_take Cp.e hi
   simp only[Cp.e,Cp.o] at hc
   simp only[jA,jB,apL,jC,jD,i_pClone.d2,C.I_i,C.L_l,jW,jY,getD_map' Cp.e hi,ltL hi,decide_true,jR,jX,w1 hi hlc]
   simp only[Cp.e] at sn
   simp only[Cp.e,jC,jD,hc,call12,jI,C.L_l,rows,List.length_cons,List.length_nil,Nat.zero_add,hn,decide_true,jR,sn])
  (by simp[i_pClone.d2]) f.cps.length 0 rfl
 have hs:f.svs.length≤4294967296:=by have:=hz.2.1.1;omega
 simp only[Fl.e,jA,jB,Int.natCast_zero,List.take_zero,List.map_nil,List.take_length] at h1 h2
 simp only[i_pClone,i_pClone.d5,Fl.e,apL,jC,jD,C.L_l,C.B_b,jW,hs,decide_true,jR]
 rw[show nils=([]:List (List C)) from rfl] at h1 h2⊢
 rw[h1]
 simp only[bindBlk_self,apL,jC,jD,i_pClone.d4,C.L_l,jW]
 rw[h2]
 simp[i_pClone.d3]
theorem s_l2Fleet_eq:s_l2Fleet f.e=some f.e:=by
 have hlb:f.bts.length<big:=by have:=hz.1.1;simp only[big];omega
 have hlc:f.cps.length<big:=by have:=hz.2.2.1;simp only[big];omega
 have h1:=run_loop (body:=ap13 s_l2Fleet.d1) (S:=fun i=>[C.i (i:Nat)]++f.e++[C.b false,C.b f.pack,.l nils,.l nils,.l nils,C.l ((f.bts.take i).map Bt.e),C.l (f.svs.map Sv.e),.l nils]) (n:=f.bts.length) (b:=0) (ys:=f.e++[C.b false,C.b f.pack,.l nils,.l nils,.l nils,C.l ((f.bts.take f.bts.length).map Bt.e),C.l (f.svs.map Sv.e),.l nils])
  (fun i hi=>by
   have hc:=s_l2BerthOf_eq (hz.1.2 _ (List.getElem_mem hi)).2.2.1
   have hn:(f.bts.take i).length+1≤4294967296:=by rw[List.length_take];have:=hz.1.1;omega
   have sn:=snoc_take Bt.e hi
   simp only[Bt.e,Bt.o] at hc
   simp only[Fl.e,jA,jB,apL,jC,jD,s_l2Fleet.d1,C.I_i,C.L_l,jW,jY,getD_map' Bt.e hi,ltL hi,decide_true,jR,jX,w1 hi hlb]
   simp only[Bt.e] at sn
   simp only[Bt.e,jC,jD,hc,call6,jI,C.L_l,rows,List.length_cons,List.length_nil,Nat.zero_add,hn,decide_true,jR,sn])
  (by simp[s_l2Fleet.d1,Fl.e]) f.bts.length 0 rfl
 have h2:=run_loop (body:=ap13 s_l2Fleet.d2) (S:=fun i=>[C.i (i:Nat)]++f.e++[C.b false,C.b f.pack,.l nils,.l nils,.l nils,C.l (f.bts.map Bt.e),C.l (f.svs.map Sv.e),C.l ((f.cps.take i).map Cp.e)]) (n:=f.cps.length) (b:=2) (ys:=[C.b false,C.b f.pack,.l nils,.l nils,.l nils,C.l (f.bts.map Bt.e),C.l (f.svs.map Sv.e),C.l ((f.cps.take f.cps.length).map Cp.e)])
  (fun i hi=>by
   have hc:=s_l2CopyOf_eq (hz.2.2.2 _ (List.getElem_mem hi)).2.2.2.2.2.2.1
   have hn:(f.cps.take i).length+1≤4294967296:=by rw[List.length_take];have:=hz.2.2.1;omega
   have sn:=snoc_take Cp.e hi
   simp only[Cp.e,Cp.o] at hc
   simp only[Fl.e,jA,jB,apL,jC,jD,s_l2Fleet.d2,C.I_i,C.L_l,jW,jY,getD_map' Cp.e hi,ltL hi,decide_true,jR,jX,w1 hi hlc]
   simp only[Cp.e] at sn
   simp only[Cp.e,jC,jD,hc,call12,jI,C.L_l,rows,List.length_cons,List.length_nil,Nat.zero_add,hn,decide_true,jR,sn])
  (by simp[s_l2Fleet.d2,Fl.e]) f.cps.length 0 rfl
 have hs:0+f.svs.length≤4294967296:=by have:=hz.2.1.1;omega
 simp only[Fl.e,jA,jB,Int.natCast_zero,List.take_zero,List.map_nil,List.take_length] at h1 h2
 rw[show nils=([]:List (List C)) from rfl] at h1 h2
 simp only[s_l2Fleet,s_l2Fleet.d5,Fl.e,apL,jC,jD,C.L_l,C.B_b,jW,show nils=([]:List (List C)) from rfl,List.length_nil,hs,decide_true,jR,jB]
 rw[h1]
 simp only[bindBlk_self,apL,jC,jD,s_l2Fleet.d4,C.L_l,jW]
 rw[h2]
 simp[s_l2Fleet.d3]
end
end Go.Ev
namespace Go.Ev
theorem bytesLess_trans:∀(a b c:List UInt8),Op.bytesLess a b=true→Op.bytesLess b c=true→Op.bytesLess a c=true
 |_,_,[],_,h2=>by cases ‹List UInt8›<;>simp[Op.bytesLess] at h2
 |_,[],_::_,h1,_=>by simp[Op.bytesLess] at h1
 |[],_::_,_::_,_,_=>by simp[Op.bytesLess]
 |x::a,y::b,z::c,h1,h2=>by
  simp only[Op.bytesLess,Bool.or_eq_true,Bool.and_eq_true,decide_eq_true_eq,beq_iff_eq] at h1 h2⊢
  have lt (p q:UInt8):p<q↔p.toNat<q.toNat:=Iff.rfl
  simp only[lt] at h1 h2⊢
  rcases h1 with h1|⟨rfl,h1⟩
  ·rcases h2 with h2|⟨rfl,h2⟩
   ·left;omega
   ·left;exact h1
  ·rcases h2 with h2|⟨rfl,h2⟩
   ·left;exact h2
   ·right;exact ⟨rfl,bytesLess_trans a b c h1 h2⟩
theorem bytesLess_irr:∀(a:List UInt8),Op.bytesLess a a=false
 |[]=>rfl
 |x::r=>by
  have ih:=bytesLess_irr r
  simp only[Op.bytesLess,ih]
  simp
theorem sLt_irr (a:Str):sLt a a=false:=bytesLess_irr _
theorem sLt_trans {a b c:Str} (h1:sLt a b=true) (h2:sLt b c=true):sLt a c=true:=bytesLess_trans _ _ _ h1 h2
theorem adj_lt {α:Type} {lt:α→α→Bool} {l:List α} (ht:∀a b c,lt a b=true→lt b c=true→lt a c=true) (h:∀i (h:i+1<l.length),lt (l[i]'(by omega)) l[i+1]=true):
  ∀(d i:Nat) (hj:i+d+1<l.length),lt (l[i]'(by omega)) l[i+d+1]=true
 |0,i,hj=>h i hj
 |d+1,i,hj=>ht _ _ _ (adj_lt ht h d i (by omega)) (h (i+d+1) (by omega))
def UniqF (l:List Cp):Prop:=∀(i k:Nat) (hi:i<l.length) (hk:k<l.length),sEq l[i].name l[k].name=true→i=k
theorem names_up {f:Fl} (h:validF f=true) (d i:Nat) (hj:i+d+1<f.cps.length):sLt (f.cps[i]'(by omega)).name f.cps[i+d+1].name=true:=by
 refine adj_lt (lt:=fun a b:Cp=>sLt a.name b.name) (fun a b c=>sLt_trans) (fun i hi=>?_) d i hj
 simp only[validF,Bool.and_eq_true] at h
 have:=(allFrom_iff _ _ _).1 h.2.2.2.2.1 (i+1) (Nat.zero_le _) (by omega)
 have hi':i<f.cps.length:=by omega
 have e:(i+1==0)=false:=rfl
 simp only[cpA,List.getElem?_eq_getElem hi,Nat.add_sub_cancel,List.getElem?_eq_getElem hi',e,Bool.false_or,Bool.and_eq_true] at this
 exact this.2.2.1
theorem uniq_of {f:Fl} (h:validF f=true):UniqF f.cps:=by
 have key:∀(i k:Nat) (hi:i<f.cps.length) (hk:k<f.cps.length),i<k→sEq f.cps[i].name f.cps[k].name=true→False:=by
  intro i k hi hk hlt he
  obtain ⟨d,rfl⟩:∃d,k=i+d+1:=⟨k-i-1,by omega⟩
  have:=names_up h d i hk
  rw[(sEq_iff _ _).1 he,sLt_irr] at this
  exact absurd this (by decide)
 intro i k hi hk he
 rcases Nat.lt_trichotomy i k with h1|h1|h1
 ·exact (key i k hi hk h1 he).elim
 ·exact h1
 ·exact (key k i hk hi h1 (by rw[sEq_comm];exact he)).elim
def upTo {α:Type} (g:α→α) (l:List α) (i:Nat):List α:=(l.take i).map g++l.drop i
theorem upTo_len {α:Type} (g:α→α) (l:List α) (i:Nat):(upTo g l i).length=l.length:=by simp[upTo];omega
theorem upTo_get {α:Type} (g:α→α) {l:List α} {i:Nat} (h:i<l.length):(upTo g l i)[i]?=some l[i]:=by
 simp only[upTo]
 rw[List.getElem?_append_right (by simp;omega)]
 simp[Nat.min_eq_left (Nat.le_of_lt h),h]
theorem upTo_set {α:Type} (g:α→α) {l:List α} {i:Nat} (h:i<l.length):(upTo g l i).set i (g l[i])=upTo g l (i+1):=by
 have hl:((l.take i).map g).length=i:=by simp;omega
 simp only[upTo]
 rw[List.set_append_right _ _ (by omega),hl,Nat.sub_self,List.drop_eq_getElem_cons h,List.set_cons_zero,List.take_succ_eq_append_getElem h,List.map_append,List.append_assoc]
 rfl
theorem upTo_same {α:Type} (g:α→α) {l:List α} {i:Nat} (h:i<l.length) (e:g l[i]=l[i]):upTo g l (i+1)=upTo g l i:=by
 rw[←upTo_set g h,e]
 refine List.ext_getElem? fun j=>?_
 rw[List.getElem?_set]
 split
 ·rename_i h1
  subst h1
  rw[upTo_len,if_pos h,upTo_get g h]
 ·rfl
theorem upTo_all {α:Type} (g:α→α) (l:List α):upTo g l l.length=l.map g:=by simp[upTo]
theorem getD_of {α:Type} (e:α→List C) {l:List α} {i:Nat} {x:α} (h:l[i]?=some x):(l.map e).getD i []=e x:=by
 rw[List.getD_eq_getElem?_getD,List.getElem?_map,h];rfl
def inS (g:List Str) (s:Str):Bool:=g.any fun x=>sEq s x
theorem slices_Index_string_eq (g:List Str) (s:Str) (hg:g.length≤1048576):slices_Index_string [.l (g.map sE),.s s]=some [.i (findIx (fun x=>sEq s x) g 0)]:=by
 have h:=find_loop (l:=g) (body:=ap4 slices_Index_string.d1) (S:=fun i=>[.l (g.map sE),.s s,.i (g.length:Nat),.i (i:Nat)]) (p:=fun x=>sEq s x) (b:=0)
  (fun i hi=>by
   simp only[apL,jC,jD,slices_Index_string.d1,C.I_i,C.L_l,C.S_s,jW,jY,getD_map' sE hi,w1 hi (show g.length<big by simp only[big];omega),ltL hi,jR,jX,decide_true]
   simp only[sE,jC,C.S_s]
   show (bif sEq s g[i] then _ else _)=_
   cases sEq s g[i]<;>rfl)
  (by simp[slices_Index_string.d1]) g.length 0 rfl
 simp only[slices_Index_string,slices_Index_string.d3,apL,jC,jD,C.L_l,jW]
 rw[show (fun xs:List C=>slices_Index_string.d2)=fun _=>some (.ret [.i (-1)]) from rfl]
 simp only[Int.natCast_zero,List.drop_zero] at h
 rw[h];rfl
theorem slices_Contains_string_eq (g:List Str) (s:Str) (hg:g.length≤1048576):slices_Contains_string [.l (g.map sE),.s s]=some [.b (inS g s)]:=by
 have:decide (findIx (fun x=>sEq s x) g 0≥0)=inS g s:=by
  have:=findIx_any (fun x=>sEq s x) g 0
  unfold inS
  rw[←Bool.not_not (b:=g.any _),←this,←decide_not,decide_eq_decide]
  omega
 simp only[slices_Contains_string,slices_Contains_string.d1,apL,jC,jD,slices_Index_string_eq g s hg,call1,jI,C.I_i,this,jV]
def goC (g:List Str) (c:Cp):Cp:=bif inS g c.name then {c with at_:=mkS []} else c
def goF (f:Fl) (g:List Str):Fl:= {f with cps:=f.cps.map (goC g)}
theorem goF_sz {f:Fl} (hz:f.Sz 1048576) (g:List Str):(goF f g).Sz 1048576:=by
 refine ⟨hz.1,hz.2.1,by simp only[goF,jW];exact hz.2.2.1,fun c hc=>?_⟩
 simp only[goF,List.mem_map] at hc
 obtain ⟨x,hx,rfl⟩:=hc
 have:=hz.2.2.2 x hx
 unfold goC
 cases inS g x.name with
 |false=>exact this
 |true=>exact ⟨this.1,this.2.1,this.2.2.1,this.2.2.2.1,this.2.2.2.2.1,(by simp[mkS];decide),this.2.2.2.2.2.2⟩
theorem goF_vb {f:Fl} (h:VB f) (g:List Str):VB (goF f g):=by
 refine ⟨by simp only[goF,jW];exact h.n60,fun c hc=>?_,h.bb⟩
 simp only[goF,List.mem_map] at hc
 obtain ⟨x,hx,rfl⟩:=hc
 have:=h.cb x hx
 unfold goC
 cases inS g x.name<;>exact this
section
variable {f:Fl} (hz:f.Sz 1048576) (g:List Str) (hg:g.length≤1048576)
include hz hg
theorem i_pGo_eq:i_pGo (f.e++[.l (g.map sE)])=some (goF f g).e:=by
 have hc:=i_pClone_eq hz
 have hlc:f.cps.length<big:=by have:=hz.2.2.1;simp only[big];omega
 have h:=run_loop (body:=ap11 i_pGo.d1) (S:=fun i=>[C.l (g.map sE),C.i (f.cps.length:Nat),C.i (i:Nat),C.b false,C.b f.pack,.l nils,.l nils,.l nils,C.l (f.bts.map Bt.e),C.l (f.svs.map Sv.e),C.l ((upTo (goC g) f.cps i).map Cp.e)]) (n:=f.cps.length) (b:=0) (ys:=[C.b false,C.b f.pack,.l nils,.l nils,.l nils,C.l (f.bts.map Bt.e),C.l (f.svs.map Sv.e),C.l ((upTo (goC g) f.cps f.cps.length).map Cp.e)])
  (fun i hi=>by
   have hx:=getD_of Cp.e (upTo_get (goC g) hi)
   have hk:=slices_Contains_string_eq g f.cps[i].name hg
   simp only[apL,jC,jD,i_pGo.d1,C.I_i,C.L_l,jW,upTo_len,jY,hx,ltL hi,decide_true,jR,jX,w1 hi hlc]
   simp only[Cp.e,jC,hk,call1,jI,C.B_b]
   cases hin:inS g f.cps[i].name with
   |false=>
    rw[upTo_same (goC g) hi (by simp[goC,hin])];rfl
   |true=>
    rw[←upTo_set (goC g) hi,List.map_set]
    simp[goC,hin,Cp.e,setCs,show bs #[]=mkS [] from rfl])
  (by simp[i_pGo.d1,upTo_len]) f.cps.length 0 rfl
 simp only[Fl.e,Int.natCast_zero,upTo_all] at h hc
 have h0:upTo (goC g) f.cps 0=f.cps:=by simp[upTo]
 rw[h0] at h
 simp only[i_pGo,i_pGo.d3,Fl.e,jA,jB,apL,jC,jD,hc,call4,jI,C.L_l,jW,h,bindBlk_self,i_pGo.d2,jV,goF]
theorem s_l6Without_eq (hu:UniqF f.cps) (hin:∀j (h:j<g.length),∃k,∃hk:k<f.cps.length,cIx f g[j]=(k:Nat)∧sEq f.cps[k].name g[j]=true):s_l6Without (f.e++[.l (g.map sE)])=some (goF f g).e:=by
 have hc:=s_l2Fleet_eq hz
 have hlg:g.length<big:=by simp only[big];omega
 have h:=run_loop (body:=ap10 s_l6Without.d1) (S:=fun i=>[C.l (g.map sE),C.i (i:Nat),C.b false,C.b f.pack,.l nils,.l nils,.l nils,C.l (f.bts.map Bt.e),C.l (f.svs.map Sv.e),C.l ((goF f (g.take i)).cps.map Cp.e)]) (n:=g.length) (b:=0) (ys:=[C.b false,C.b f.pack,.l nils,.l nils,.l nils,C.l (f.bts.map Bt.e),C.l (f.svs.map Sv.e),C.l ((goF f (g.take g.length)).cps.map Cp.e)])
  (fun j hj=>by
   obtain ⟨k,hk,e1,e2⟩:=hin j hj
   have hlen:(goF f (g.take j)).cps.length=f.cps.length:=by simp[goF]
   have hix:cIx (goF f (g.take j)) g[j]=cIx f g[j]:=by
    unfold cIx goF
    generalize f.cps=l
    generalize 0=n
    induction l generalizing n with
    |nil=>rfl
    |cons x r ih=>
     have:(goC (g.take j) x).name=x.name:=by unfold goC;cases inS (g.take j) x.name<;>rfl
     simp only[List.map_cons,findIx,this,ih]
   have hs:=s_l2Copy_eq (goF f (g.take j)) g[j] (goF_sz hz _).2.2.1
   rw[hix,e1] at hs
   have hkc:(goF f (g.take j)).cps[k]?=some (goC (g.take j) f.cps[k]):=by simp[goF,hk]
   have hx:=getD_of Cp.e hkc
   simp only[Fl.e,jA,jB,show (goF f (g.take j)).pack=f.pack from rfl,show (goF f (g.take j)).bts=f.bts from rfl,show (goF f (g.take j)).svs=f.svs from rfl] at hs
   simp only[apL,jC,jD,s_l6Without.d1,C.I_i,C.L_l,jW,jY,getD_map' sE hj,ltL hj,decide_true,jR,jX,w1 hj hlg]
   simp only[sE,jC,hs,call1,jI,C.I_i,jX,decide_true,jR,hlen,ltL hk,jY,hx]
   have hfin:((goF f (g.take j)).cps.map Cp.e).set k (setCs (goC (g.take j) f.cps[k]).e 11 [.s (bs #[])])=(goF f (g.take (j+1))).cps.map Cp.e:=by
    have e3:setCs (goC (g.take j) f.cps[k]).e 11 [.s (bs #[])]=({f.cps[k] with at_:=mkS []}:Cp).e:=by
     unfold goC
     cases inS (g.take j) f.cps[k].name<;>rfl
    rw[e3]
    refine List.ext_getElem? fun m=>?_
    rw[List.getElem?_set]
    simp only[jW,hlen]
    split
    ·rename_i h1
     subst h1
     have:inS (g.take (j+1)) f.cps[k].name=true:=by
      unfold inS
      rw[List.take_succ_eq_append_getElem hj,List.any_append]
      simp[e2]
     simp[hk,goF,goC,this]
    ·rename_i h1
     rcases Nat.lt_or_ge m f.cps.length with hm|hm
     ·have:inS (g.take (j+1)) f.cps[m].name=inS (g.take j) f.cps[m].name:=by
       unfold inS
       rw[List.take_succ_eq_append_getElem hj,List.any_append]
       have:sEq f.cps[m].name g[j]=false:=by
        cases hq:sEq f.cps[m].name g[j] with
        |false=>rfl
        |true=>
         rw[←(sEq_iff _ _).1 e2] at hq
         exact absurd (hu m k hm hk hq).symm h1
       simp[this]
      simp[hm,goF,goC,this]
     ·simp[goF,hm]
   rw[hfin])
  (by simp[s_l6Without.d1]) g.length 0 rfl
 have h0:(goF f (g.take 0)).cps=f.cps:=by
  simp only[goF,List.take_zero]
  have:goC []=id:=by funext c;rfl
  rw[this,List.map_id]
 simp only[Fl.e,Int.natCast_zero,h0,List.take_length] at h hc
 simp only[s_l6Without,s_l6Without.d3,Fl.e,jA,jB,apL,jC,jD,hc,call4,jI,C.L_l,jW,h,bindBlk_self,s_l6Without.d2,jV]
 rfl
end
end Go.Ev
namespace Go.Ev
structure Sp where
 copy:Str
 berth:Str
 gone:List Str
def Sp.e (s:Sp):List C:=[.s s.copy,.s s.berth,.l (s.gone.map sE)]
def Sp.Sz (K:Nat) (s:Sp):Prop:=s.copy.size≤K∧s.berth.size≤K∧SsSz K s.gone
section
variable {f:Fl} (hz:f.Sz 1048576) {s:Sp} (hs:s.Sz 1048576)
include hz hs
end
end Go.Ev
namespace Go.Ev
end Go.Ev
namespace Go.Ev
def insN (r:Int) (l:List Int):Nat:=(l.takeWhile fun x=>decide (x≥r)).length
def insD (r:Int) (l:List Int):List Int:=l.take (insN r l)++r::l.drop (insN r l)
def insAll (l:List Int):List Int:=l.foldl (fun a r=>insD r a) []
theorem takeN {α:Type} (p:α→Bool):∀l:List α,l.take (l.takeWhile p).length=l.takeWhile p∧l.drop (l.takeWhile p).length=l.dropWhile p
 |[]=>⟨rfl,rfl⟩
 |x::r=>by
  have ih:=takeN p r
  cases h:p x<;>simp[List.takeWhile,List.dropWhile,h,ih]
theorem insN_le (r:Int) (l:List Int):insN r l≤l.length:=(List.takeWhile_sublist _).length_le
theorem insD_perm (r:Int) (l:List Int):(insD r l).Perm (r::l):=by
 have h:=List.perm_middle (a:=r) (l₁:=l.take (insN r l)) (l₂:=l.drop (insN r l))
 rw[List.take_append_drop] at h
 exact h
theorem pw_takeWhile {p:Int→Bool} {R:Int→Int→Prop}:∀ {l:List Int},(∀x,x∈l.takeWhile p→p x=true)
 |[],x,h=>by simp at h
 |y::r,x,h=>by
  cases hp:p y with
  |false=>simp[List.takeWhile,hp] at h
  |true=>
   simp only[List.takeWhile,hp,List.mem_cons] at h
   rcases h with rfl|h
   ·exact hp
   ·exact pw_takeWhile (R:=R) x h
theorem insD_sorted (r:Int) {l:List Int} (h:l.Pairwise (·≥·)):(insD r l).Pairwise (·≥·):=by
 obtain ⟨e1,e2⟩:=takeN (fun x:Int=>decide (x≥r)) l
 unfold insD insN
 rw[e1,e2]
 have h0:=h
 rw[←List.takeWhile_append_dropWhile (p:=fun x:Int=>decide (x≥r)) (l:=l),List.pairwise_append] at h0
 obtain ⟨h1,h2,h3⟩:=h0
 refine List.pairwise_append.2 ⟨h1,List.pairwise_cons.2 ⟨fun y hy=>?_,h2⟩,fun x hx y hy=>?_⟩
 ·cases hd:l.dropWhile (fun x:Int=>decide (x≥r)) with
  |nil=>rw[hd] at hy;simp at hy
  |cons z t=>
   have hz:¬z≥r:=by
    have:=List.head_dropWhile_not (p:=fun x:Int=>decide (x≥r)) (l:=l) (by rw[hd];simp)
    simp only[hd,List.head_cons,decide_eq_false_iff_not] at this
    exact this
   rw[hd] at hy h2
   rcases List.mem_cons.1 hy with rfl|hy
   ·omega
   ·have:=(List.pairwise_cons.1 h2).1 y hy
    omega
 ·have hx':x≥r:=by simpa using pw_takeWhile (R:=(·≥·)) x hx
  rcases List.mem_cons.1 hy with rfl|hy
  ·exact hx'
  ·exact h3 x hx y hy
theorem insAll_ok:∀(l a:List Int),a.Pairwise (·≥·)→(l.foldl (fun a r=>insD r a) a).Pairwise (·≥·)∧(l.foldl (fun a r=>insD r a) a).Perm (l++a)
 |[],a,h=>⟨h,.refl _⟩
 |r::l,a,h=>by
  obtain ⟨h1,h2⟩:=insAll_ok l (insD r a) (insD_sorted r h)
  exact ⟨h1,h2.trans (((insD_perm r a).append_left l).trans List.perm_middle)⟩
theorem harm_eq (l:List Int):(sortI l).reverse=insAll l:=by
 obtain ⟨h1,h2⟩:=insAll_ok l [] .nil
 rw[List.append_nil] at h2
 refine List.Perm.eq_of_pairwise (le:=(·≥·)) (fun a b _ _ h1 h2=>by omega) ?_ h1 (((sortI l).reverse_perm.trans (List.mergeSort_perm l _)).trans h2.symm)
 rw[List.pairwise_reverse]
 have:=List.pairwise_mergeSort (le:=fun x y:Int=>decide (x≤y)) (fun a b c h1 h2=>by simp at*;omega) (fun a b=>by simp;omega) l
 exact this.imp fun {a b} h=>by simpa using h
theorem insAll_snoc (l:List Int) (r:Int):insAll (l++[r])=insD r (insAll l):=by simp[insAll,List.foldl_append]
theorem insAll_len (l:List Int):(insAll l).length=l.length:=by
 have:=(insAll_ok l [] .nil).2.length_eq
 simpa [insAll] using this
def revAt (l:List Int) (k m:Nat):Int:=if m<k∨l.length-k≤m then l.getD (l.length-1-m) 0 else l.getD m 0
def revUp (l:List Int) (k:Nat):List Int:=(List.range l.length).map (revAt l k)
theorem revUp_get (l:List Int) (k:Nat) {m:Nat} (h:m<l.length):(revUp l k)[m]?=some (revAt l k m):=by simp[revUp,h]
theorem revUp_len (l:List Int) (k:Nat):(revUp l k).length=l.length:=by simp[revUp]
theorem revUp_0 (l:List Int):revUp l 0=l:=by
 refine List.ext_getElem? fun m=>?_
 rcases Nat.lt_or_ge m l.length with h|h
 ·rw[revUp_get l 0 h]
  have:¬(m<0∨l.length-0≤m):=by omega
  unfold revAt
  rw[if_neg this]
  simp[h]
 ·simp[revUp,h]
theorem revUp_end (l:List Int):revUp l (l.length/2)=l.reverse:=by
 refine List.ext_getElem? fun m=>?_
 rcases Nat.lt_or_ge m l.length with h|h
 ·rw[revUp_get l _ h,List.getElem?_reverse h]
  unfold revAt
  split
  ·have:l.length-1-m<l.length:=by omega
   simp[this]
  ·have:l.length-1-m=m:=by omega
   simp[this,h]
 ·simp[revUp,h]
theorem slices_Reverse_int_eq (l:List Int) (hl:l.length≤4294967296):slices_Reverse_int [.l (l.map iE)]=some [.l (l.reverse.map iE)]:=by
 have h:=run_loop (body:=ap3 slices_Reverse_int.d1) (S:=fun k=>[C.i (k:Nat),C.i ((l.length:Int)-1-k),C.l ((revUp l k).map iE)]) (n:=l.length/2) (b:=0) (ys:=[C.l ((revUp l (l.length/2)).map iE)])
  (fun k hk=>by
   have hj:((l.length:Int)-1-k)=((l.length-1-k:Nat):Int):=by omega
   have k1:k<l.length:=by omega
   have k2:l.length-1-k<l.length:=by omega
   have lt:((k:Int)<((l.length-1-k:Nat):Int)):=by omega
   have g1:=getD_of iE (revUp_get l k k1)
   have g2:=getD_of iE (revUp_get l k k2)
   have a1:revAt l k k=l.getD k 0:=by
    unfold revAt;rw[if_neg (by omega)]
   have a2:revAt l k (l.length-1-k)=l.getD (l.length-1-k) 0:=by
    unfold revAt;rw[if_neg (by omega)]
   have wk:w64 ((k:Int)+1)=((k+1:Nat):Int):=by rw[w64_of (by omega) (by omega)];omega
   have wj:w64 (((l.length-1-k:Nat):Int)-1)=(l.length:Int)-1-((k+1:Nat):Int):=by rw[w64_of (by omega) (by omega)];omega
   have hset:(((revUp l k).map iE).set k (iE (l.getD (l.length-1-k) 0))).set (l.length-1-k) (iE (l.getD k 0))=(revUp l (k+1)).map iE:=by
    rw[←List.map_set,←List.map_set]
    congr 1
    refine List.ext_getElem? fun m=>?_
    rcases Nat.lt_or_ge m l.length with hm|hm
    ·rw[revUp_get l (k+1) hm,List.getElem?_set,List.getElem?_set]
     simp only[List.length_set,revUp_len,k1,k2,if_true]
     split
     ·rename_i e;subst e
      unfold revAt
      rw[if_pos (by omega)]
      have:l.length-1-(l.length-1-k)=k:=by omega
      rw[this]
     ·split
      ·rename_i e;subst e
       unfold revAt
       rw[if_pos (by omega)]
      ·rw[revUp_get l k hm]
       unfold revAt
       congr 1
       by_cases q:m<k∨l.length-k≤m
       ·rw[if_pos q,if_pos (by omega)]
       ·rw[if_neg q,if_neg (by omega)]
    ·simp[revUp,hm]
   simp only[hj,apL,jC,jD,slices_Reverse_int.d1,C.I_i,C.L_l,lt,decide_true,jR,jX,jW,List.length_set,revUp_len,ltL k1,ltL k2,jY,g1,g2,a1,a2,wk,wj]
   have s1:setCs (iE (l.getD k 0)) 0 [(iE (l.getD (l.length-1-k) 0)).getD 0 C.nil]=iE (l.getD (l.length-1-k) 0):=rfl
   rw[s1]
   have g3:(((revUp l k).map iE).set k (iE (l.getD (l.length-1-k) 0))).getD (l.length-1-k) []=iE (l.getD (l.length-1-k) 0):=by
    rw[List.getD_eq_getElem?_getD,List.getElem?_set_ne (by omega),←List.getD_eq_getElem?_getD,g2,a2]
   rw[g3]
   have s2:setCs (iE (l.getD (l.length-1-k) 0)) 0 [(iE (l.getD k 0)).getD 0 C.nil]=iE (l.getD k 0):=rfl
   rw[s2,hset])
  (by
   have:¬(((l.length/2:Nat):Int)<(l.length:Int)-1-((l.length/2:Nat):Int)):=by omega
   simp only[apL,jC,jD,slices_Reverse_int.d1,C.I_i,C.L_l,this,decide_false,jS]) (l.length/2) 0 rfl
 have w0:w64 ((l.length:Int)-1)=(l.length:Int)-1:=w64_of (by omega) (by omega)
 simp only[Int.natCast_zero,Int.sub_zero,revUp_0,revUp_end] at h
 simp only[slices_Reverse_int,slices_Reverse_int.d3,apL,jC,C.L_l,jW,w0,h,bindBlk_self,slices_Reverse_int.d2,jV]
theorem sortIF_eq (l:List Int) (hl:l.length≤4294967296):slices_Sort_int [.l (l.map iE)]=some [.l ((sortI l).map iE)]:=by
 have:intsOf (l.map iE)=l:=by
  have:(fun r:List C=>(r.getD 0 .nil).I)∘iE=id:=rfl
  rw[intsOf,List.map_map,this,List.map_id]
 simp only[slices_Sort_int,sortIF,jC,C.L_l,jW,hl,decide_true,jR,this]
end Go.Ev
namespace Go.Ev
def rankOf (f:Fl) (s:Str):Int:=match f.cps[(cIx f s).toNat]? with|some c=>c.rank|none=>0
def thereA (f:Fl) (g:List Str) (j:Nat):Bool:=decide (0≤cIx f (sAt g j))
def ranksOf (f:Fl) (g:List Str):List Int:=g.map (rankOf f)
theorem rank_at {f:Fl} {g:List Str} {j:Nat} (hj:j<g.length):(thereA f g j=false∧cIx f g[j]<0)∨(thereA f g j=true∧∃k,∃hk:k<f.cps.length,cIx f g[j]=(k:Nat)∧rankOf f g[j]=f.cps[k].rank):=by
 rw[thereA,sAt_get hj]
 rcases cIx_at f g[j] with h|⟨k,hk,h,_⟩
 ·exact .inl ⟨by simp;omega,h⟩
 ·exact .inr ⟨by rw[h];simp,k,hk,h,by simp[rankOf,h,hk]⟩
theorem ranks_succ (f:Fl) {g:List Str} {j:Nat} (hj:j<g.length):ranksOf f (g.take (j+1))=ranksOf f (g.take j)++[rankOf f g[j]]:=by
 rw[ranksOf,List.take_succ_eq_append_getElem hj,List.map_append];rfl
theorem ranks_len (f:Fl) (g:List Str) (j:Nat):(ranksOf f (g.take j)).length≤g.length:=by
 rw[ranksOf,jW,List.length_take];omega
section
variable {f:Fl} (hz:f.Sz 1048576) (g:List Str) (hg:SsSz 1048576 g)
include hz hg
theorem ins_loop (r:Int) (l:List Int) (hl:l.length≤1048576) (a b c:C):lim (ap9 s_l6Harm.d1) ([a,b,.i r,.i 0]++f.e++[.l (l.map iE)])=some (.brk 2 ([a,b,.i r,.i (insN r l:Nat)]++f.e++[.l (l.map iE)])):=by
 have hlb:l.length<big:=by simp only[big];omega
 have hle:=insN_le r l
 obtain ⟨e1,e2⟩:=takeN (fun x:Int=>decide (x≥r)) l
 have h:=run_loop (body:=ap9 s_l6Harm.d1) (S:=fun k=>[a,b,.i r,.i (k:Nat)]++f.e++[C.l (l.map iE)]) (n:=insN r l) (b:=2) (ys:=[a,b,.i r,.i (insN r l:Nat)]++f.e++[C.l (l.map iE)])
  (fun k hk=>by
   have hk':k<l.length:=by omega
   have hge:l[k]≥r:=by
    have h1:(l.takeWhile fun x:Int=>decide (x≥r))[k]'hk=l[k]:=by
     have:=(List.takeWhile_prefix (fun x:Int=>decide (x≥r)) (l:=l)).getElem hk
     exact this
    have:=pw_takeWhile (p:=fun x:Int=>decide (x≥r)) (R:=(·≥·)) _ (List.getElem_mem hk)
    rw[h1] at this
    simpa using this
   simp only[Fl.e,jA,jB,apL,jC,jD,s_l6Harm.d1,C.I_i,C.L_l,jW,ltL hk',decide_true,jR,jX,jY,getD_map' iE hk',w1 hk' hlb]
   simp only[iE,jC,C.I_i,hge,decide_true,jR])
  (by
   simp only[Fl.e,jA,jB,apL,jC,jD,s_l6Harm.d1,C.I_i,C.L_l,jW]
   rcases Nat.lt_or_ge (insN r l) l.length with h|h
   ·have hlt:¬l[insN r l]≥r:=by
     have hd:l.drop (insN r l)=l.dropWhile fun x:Int=>decide (x≥r):=e2
     have hne:l.dropWhile (fun x:Int=>decide (x≥r))≠[]:=by rw[←hd];intro h0;rw[List.drop_eq_nil_iff] at h0;omega
     have:=List.head_dropWhile_not (p:=fun x:Int=>decide (x≥r)) (l:=l) hne
     have h5:(l.drop (insN r l)).head (by rw[hd];exact hne)=l[insN r l]:=by simp[List.head_drop]
     simp only[←hd,h5,decide_eq_false_iff_not] at this
     exact this
    simp only[ltL h,decide_true,jR,jX,jY,getD_map' iE h]
    simp only[iE,jC,C.I_i,hlt,decide_false,jS]
   ·have:¬(((insN r l:Nat):Int)<(l.length:Int)):=by omega
    simp only[this,decide_false,jS]) (insN r l) 0 rfl
 exact h
theorem s_l6Harm_eq (ht:allFrom (thereA f g) 0 g.length=true):s_l6Harm (f.e++[.l (g.map sE)])=some [.l ((insAll (ranksOf f g)).map iE)]:=by
 have hgl:g.length<big:=by have:=hg.1;simp only[big];omega
 have h:=run_loop (body:=ap7 s_l6Harm.d3) (S:=fun k=>[C.l (g.map sE),C.i (k:Nat)]++f.e++[C.l ((insAll (ranksOf f (g.take k))).map iE)]) (n:=g.length) (b:=0) (ys:=[C.l ((insAll (ranksOf f (g.take g.length))).map iE)])
  (fun k hk=>by
   have hc:=s_l2Copy_eq f g[k] hz.2.2.1
   have hln:=ranks_len f g k
   have hil:(insAll (ranksOf f (g.take k))).length≤1048576:=by rw[insAll_len];have:=hg.1;omega
   have hin:=insN_le
   simp only[Fl.e,jA,jB] at hc
   simp only[Fl.e,jA,jB,apL,jC,jD,s_l6Harm.d3,C.I_i,C.L_l,jW,ltL hk,decide_true,jR,jX,jY,getD_map' sE hk]
   simp only[sE,jC,hc,call1,jI,C.I_i]
   rcases rank_at (f:=f) hk with ⟨e1,e2⟩|⟨e1,m,hm,e2,e3⟩
   ·have:=(allFrom_iff _ _ _).1 ht k (Nat.zero_le _) (by omega)
    rw[e1] at this;cases this
   ·have hr:(f.cps[m].e).getD 2 C.nil=.i f.cps[m].rank:=rfl
    have hI:=ins_loop hz g hg f.cps[m].rank _ hil (.l (g.map sE)) (.i (k:Nat)) .nil
    have hN:=insN_le f.cps[m].rank (insAll (ranksOf f (g.take k)))
    simp only[Fl.e,jA,jB] at hI
    simp only[e2,decide_true,jR,jX,ltL hm,jY,getD_map' Cp.e hm,hr,ranks_succ f hk,insAll_snoc,e3]
    generalize insAll (ranksOf f (g.take k))=L at hI hil hN⊢
    generalize f.cps[m].rank=r at hI hN⊢
    rw[hI]
    have q1:((insN r L:Nat):Int)≤(L.length:Int):=by omega
    have q2:0+(insN r L)≤4294967296:=by omega
    have q3:min (insN r L) L.length=insN r L:=by omega
    have q4:0+insN r L+(0+1)≤4294967296:=by omega
    have q5:0+insN r L+(0+1)+(L.length-insN r L)≤4294967296:=by omega
    simp only[bindBlk_self,apL,jC,jD,s_l6Harm.d2,C.I_i,C.L_l,jW,q1,jX,decide_true,jR,jY,rows,List.length_append,List.length_drop,List.length_take,Nat.sub_zero,List.length_cons,List.length_nil,q2,q3,q4,q5,Int.le_refl,Nat.min_self,w1 hk hgl,List.drop_zero,jB]
    have p1:insN r L≤4294967295:=by omega
    have p2:insN r L+1+(L.length-insN r L)≤4294967296:=by omega
    simp[insD,iE,List.map_take,List.map_drop,List.take_of_length_le,p1,p2])
  (by simp[s_l6Harm.d3,Fl.e]) g.length 0 rfl
 simp only[Fl.e,jA,jB,Int.natCast_zero,List.take_zero,List.take_length,show insAll (ranksOf f [])=[] from rfl,List.map_nil] at h
 simp only[s_l6Harm,s_l6Harm.d5,Fl.e,jA,jB,apL,jC,jD,show nils=([]:List (List C)) from rfl,h,bindBlk_self,s_l6Harm.d4,C.L_l,jV]
end
end Go.Ev
namespace Go.Ev
section
variable {α:Type} (lt:α→α→Bool)
def insK (c:α) (l:List α):Nat:=(l.takeWhile fun x=>lt x c).length
def insQ (c:α) (l:List α):List α:=l.take (insK lt c l)++c::l.drop (insK lt c l)
def insF (l:List α):List α:=l.foldl (fun a c=>insQ lt c a) []
theorem insK_le (c:α) (l:List α):insK lt c l≤l.length:=(List.takeWhile_sublist _).length_le
theorem insQ_perm (c:α) (l:List α):(insQ lt c l).Perm (c::l):=by
 have h:=List.perm_middle (a:=c) (l₁:=l.take (insK lt c l)) (l₂:=l.drop (insK lt c l))
 rw[List.take_append_drop] at h
 exact h
theorem mem_tw {p:α→Bool}:∀ {l:List α} (x:α),x∈l.takeWhile p→p x=true
 |[],x,h=>by simp at h
 |y::r,x,h=>by
  cases hp:p y with
  |false=>simp[List.takeWhile,hp] at h
  |true=>
   simp only[List.takeWhile,hp,List.mem_cons] at h
   rcases h with rfl|h
   ·exact hp
   ·exact mem_tw x h
theorem insQ_sorted (irr:∀x,lt x x=false) (trans:∀x y z,lt x y=true→lt y z=true→lt x z=true) (ntr:∀x y z,lt x y=false→lt y z=false→lt x z=false)
  (c:α) {l:List α} (h:l.Pairwise fun x y=>lt y x=false):(insQ lt c l).Pairwise fun x y=>lt y x=false:=by
 obtain ⟨e1,e2⟩:=takeN (fun x=>lt x c) l
 unfold insQ insK
 rw[e1,e2]
 have h0:=h
 rw[←List.takeWhile_append_dropWhile (p:=fun x=>lt x c) (l:=l),List.pairwise_append] at h0
 obtain ⟨h1,h2,h3⟩:=h0
 have hz:∀y,y∈l.dropWhile (fun x=>lt x c)→lt y c=false:=by
  intro y hy
  cases hd:l.dropWhile (fun x=>lt x c) with
  |nil=>rw[hd] at hy;simp at hy
  |cons z t=>
   have hz:lt z c=false:=by
    have:=List.head_dropWhile_not (p:=fun x=>lt x c) (l:=l) (by rw[hd];simp)
    simpa only[hd,List.head_cons] using this
   rw[hd] at hy h2
   rcases List.mem_cons.1 hy with rfl|hy
   ·exact hz
   ·exact ntr _ _ _ ((List.pairwise_cons.1 h2).1 y hy) hz
 refine List.pairwise_append.2 ⟨h1,List.pairwise_cons.2 ⟨hz,h2⟩,fun x hx y hy=>?_⟩
 have hx':lt x c=true:=mem_tw x hx
 rcases List.mem_cons.1 hy with rfl|hy
 ·cases hq:lt y x with
  |false=>rfl
  |true=>
   have:=trans _ _ _ hx' hq
   rw[irr] at this;cases this
 ·exact h3 x hx y hy
theorem insF_ok (irr:∀x,lt x x=false) (trans:∀x y z,lt x y=true→lt y z=true→lt x z=true) (ntr:∀x y z,lt x y=false→lt y z=false→lt x z=false):
  ∀(l a:List α),(a.Pairwise fun x y=>lt y x=false)→((l.foldl (fun a c=>insQ lt c a) a).Pairwise fun x y=>lt y x=false)∧(l.foldl (fun a c=>insQ lt c a) a).Perm (l++a)
 |[],a,h=>⟨h,.refl _⟩
 |c::l,a,h=>by
  obtain ⟨h1,h2⟩:=insF_ok irr trans ntr l (insQ lt c a) (insQ_sorted lt irr trans ntr c h)
  exact ⟨h1,h2.trans (((insQ_perm lt c a).append_left l).trans List.perm_middle)⟩
theorem insF_snoc (l:List α) (c:α):insF lt (l++[c])=insQ lt c (insF lt l):=by simp[insF,List.foldl_append]
end
def ahd (a b:Cp):Bool:=ltE a.rank a.born a.name b.rank b.born b.name
theorem ahd_irr (x:Cp):ahd x x=false:=ltE_irr _ _ _
theorem ahd_trans (x y z:Cp):ahd x y=true→ahd y z=true→ahd x z=true:=ltE_trans
theorem ahd_ntr (x y z:Cp):ahd x y=false→ahd y z=false→ahd x z=false:=ltE_ntrans
theorem ahd_eq {a b:Cp} (h1:ahd a b=false) (h2:ahd b a=false):sEq a.name b.name=true:=by
 rcases ltE_not h1 with h|⟨_,_,h⟩
 ·have:ahd b a=true:=h
  rw[h2] at this;cases this
 ·rw[sEq_iff]
  have:b.name.data=a.name.data:=Array.toList_inj.1 h
  cases hb:b.name;cases ha:a.name
  rw[ha,hb] at this
  simp only at this
  rw[this]
def waitP (c:Cp):Bool:=sEq c.at_ (mkS [])
def waits (f:Fl):List Cp:=f.cps.filter waitP
def queue (f:Fl):List Cp:=insF ahd (waits f)
theorem queue_perm (f:Fl):(queue f).Perm (waits f):=by
 have:=(insF_ok ahd ahd_irr ahd_trans ahd_ntr (waits f) [] .nil).2
 rwa [List.append_nil] at this
theorem queue_mem {f:Fl} {c:Cp} (h:c∈queue f):c∈f.cps∧waitP c=true:=by
 have:=(queue_perm f).mem_iff.1 h
 exact List.mem_filter.1 this
theorem uniq_mem {l:List Cp} (hu:UniqF l) {x y:Cp} (hx:x∈l) (hy:y∈l) (h:sEq x.name y.name=true):x=y:=by
 obtain ⟨i,hi,rfl⟩:=List.getElem_of_mem hx
 obtain ⟨k,hk,rfl⟩:=List.getElem_of_mem hy
 have:=hu i k hi hk h
 subst this;rfl
theorem queue_sort {f:Fl} (hu:UniqF f.cps):(waits f).mergeSort (fun x y=>!ahd y x)=queue f:=by
 have hw:∀x,x∈waits f→x∈f.cps:=fun x h=>(List.mem_filter.1 h).1
 refine List.Perm.eq_of_pairwise (le:=fun x y=>ahd y x=false) (fun x y hx hy e1 e2=>?_) ?_ (insF_ok ahd ahd_irr ahd_trans ahd_ntr (waits f) [] .nil).1 ((List.mergeSort_perm _ _).trans (queue_perm f).symm)
 ·exact uniq_mem hu (hw _ ((List.mergeSort_perm _ _).mem_iff.1 hx)) (queue_mem hy).1 (ahd_eq e2 e1)
 ·have:=List.pairwise_mergeSort (le:=fun x y:Cp=>!ahd y x)
   (fun x y z e1 e2=>by
    simp only[Bool.not_eq_true'] at*
    exact ahd_ntr _ _ _ e2 e1)
   (fun x y=>by
    cases e1:ahd y x with
    |false=>simp
    |true=>
     cases e2:ahd x y with
     |false=>simp
     |true=>
      have:=ahd_trans _ _ _ e2 e1
      rw[ahd_irr] at this;cases this) (waits f)
  exact this.imp fun {x y} h=>by simpa using h
theorem apart_q:∀ {l:List Cp},(∀x,x∈l→rkOk x.rank x.born=true)→(l.Pairwise fun x y=>sEq x.name y.name=false)→∀ {lt:List C→List C→Bool},(∀x y,x∈l→y∈l→lt x.e y.e=ahd x y)→apartB lt (l.map Cp.e)=true
 |[],_,_,_,_=>rfl
 |x::r,hq,hp,lt,hlt=>by
  simp only[List.map_cons,apartB,Bool.and_eq_true,List.all_eq_true,List.mem_map]
  refine ⟨?_,apart_q (fun y hy=>hq y (by simp[hy])) (List.pairwise_cons.1 hp).2 fun y z hy hz=>hlt y z (by simp[hy]) (by simp[hz])⟩
  rintro _ ⟨y,hy,rfl⟩
  rw[hlt x y (by simp) (by simp[hy]),hlt y x (by simp[hy]) (by simp)]
  cases h1:ahd x y with
  |true=>rfl
  |false=>
   cases h2:ahd y x with
   |true=>rfl
   |false=>
    have:=ahd_eq h1 h2
    rw[(List.pairwise_cons.1 hp).1 y hy] at this;cases this
theorem names_pw {l:List Cp} (hu:UniqF l):l.Pairwise fun x y=>sEq x.name y.name=false:=by
 rw[List.pairwise_iff_getElem]
 intro i j hi hj hij
 cases h:sEq l[i].name l[j].name with
 |false=>rfl
 |true=>
  have:=hu i j hi hj h
  omega
theorem waits_succ (f:Fl) {i:Nat} (h:i<f.cps.length):(f.cps.take (i+1)).filter waitP=bif waitP f.cps[i] then (f.cps.take i).filter waitP++[f.cps[i]] else (f.cps.take i).filter waitP:=by
 rw[List.take_succ_eq_append_getElem h,List.filter_append]
 cases hw:waitP f.cps[i]<;>simp[hw]
theorem waits_len (f:Fl) (i:Nat):((f.cps.take i).filter waitP).length≤f.cps.length:=
 Nat.le_trans (List.length_filter_le _ _) (by rw[List.length_take];omega)
theorem s_l5Ahead_eq (a b:Cp):s_l5Ahead (a.e++b.e)=some [.b (ahd a b)]:=by
 simp only[s_l5Ahead,s_l5Ahead.d1,Cp.e,jA,jB,apL,jC,jD,C.I_i,C.S_s,ahd,ltE,toList_data']
 by_cases e1:a.rank=b.rank
 ·by_cases e2:a.born=b.born
  ·simp[e1,e2]
  ·have:(a.born !=b.born)=true:=by simp[e2]
   have q:(a.born==b.born)=false:=by simp[e2]
   simp[e1,this,q]
 ·have:(a.rank !=b.rank)=true:=by simp[e1]
  have q:(a.rank==b.rank)=false:=by simp[e1]
  simp[this,q]
section
variable {f:Fl} (hz:f.Sz 1048576)
include hz
theorem i_pQueue_eq (hv:VB f) (hu:UniqF f.cps):i_pQueue f.e=some [.l ((queue f).map Cp.e)]:=by
 have hlc:f.cps.length<big:=by have:=hz.2.2.1;simp only[big];omega
 have h:=run_loop (body:=ap4 i_pQueue.d2) (S:=fun i=>[C.l (f.cps.map Cp.e),C.i (f.cps.length:Nat),C.i (i:Nat),C.l (((f.cps.take i).filter waitP).map Cp.e)]) (n:=f.cps.length) (b:=0) (ys:=[C.l (((f.cps.take f.cps.length).filter waitP).map Cp.e)])
  (fun i hi=>by
   have hn:((f.cps.take i).filter waitP).length+1≤4294967296:=by have:=waits_len f i;have:=hv.n60;omega
   have q0:(((f.cps[i].e.getD 11 C.nil).S).toList==(bs #[]).toList)=waitP f.cps[i]:=rfl
   have hr:∀c:Cp,[c.e.getD 0 .nil,c.e.getD 1 .nil,c.e.getD 2 .nil,c.e.getD 3 .nil,c.e.getD 4 .nil,c.e.getD 5 .nil,c.e.getD 6 .nil,c.e.getD 7 .nil,c.e.getD 8 .nil,c.e.getD 9 .nil,c.e.getD 10 .nil,c.e.getD 11 .nil]=c.e:=fun c=>rfl
   simp only[apL,jC,jD,i_pQueue.d2,C.I_i,C.L_l,jW,ltL hi,decide_true,jR,jX,jY,getD_map' Cp.e hi,q0,waits_succ f hi,rows,List.length_cons,List.length_nil,Nat.zero_add,hn,hr]
   cases waitP f.cps[i]<;>simp[i_pQueue.d1,w1 hi hlc])
  (by simp[i_pQueue.d2]) f.cps.length 0 rfl
 simp only[Int.natCast_zero,List.take_zero,List.filter_nil,List.map_nil,List.take_length] at h
 have hw:∀x,x∈waits f→x∈f.cps:=fun x h=>(List.mem_filter.1 h).1
 have hq:∀x,x∈waits f→rkOk x.rank x.born=true:=fun x h=>by
  have:=hv.cb x (hw x h)
  rw[rkOk_iff];exact ⟨this.2.2.2.1,this.2.2.2.2⟩
 have hlt:∀x y,x∈waits f→y∈waits f→ltR i_pQueue_1 x.e y.e=ahd x y:=fun x y hx hy=>
  lt_rows i_pQueue_1_cmp ⟨⟨_,_,_,_,_,_,_,_,_,rfl⟩,hq x hx⟩ ⟨⟨_,_,_,_,_,_,_,_,_,rfl⟩,hq y hy⟩
 have hS:slices_SortFunc_PilotCopy [.l ((waits f).map Cp.e)]=some [.l ((queue f).map Cp.e)]:=by
  have hl:(waits f).length≤4294967296:=by
   have:=List.length_filter_le waitP f.cps
   have:=hv.n60
   unfold waits;omega
  have ha:((waits f).map Cp.e).all cpQ=true:=by
   rw[List.all_map,List.all_eq_true]
   intro x hx
   exact hq x hx
  have hp:apartB (ltR i_pQueue_1) ((waits f).map Cp.e)=true:=apart_q hq ((names_pw hu).sublist List.filter_sublist) hlt
  have hm:sortQ i_pQueue_1 ((waits f).map Cp.e)=(queue f).map Cp.e:=by
   rw[sortQ,←List.map_mergeSort (r:=fun x y:Cp=>!ahd y x) (s:=fun x y=>!ltR i_pQueue_1 y x) (f:=Cp.e) (fun x hx y hy=>by rw[hlt y x hy hx]),queue_sort hu]
  simp only[slices_SortFunc_PilotCopy,sortQF,jC,C.L_l,jW,hl,decide_true,ha,hp,Bool.and_self,jR,hm]
 simp only[i_pQueue,i_pQueue.d4,Fl.e,apL,jC,jD,C.L_l,jW,show nils=([]:List (List C)) from rfl,h,bindBlk_self,i_pQueue.d3]
 rw[show (f.cps.filter waitP)=waits f from rfl,hS]
 simp[call1]
end
end Go.Ev
namespace Go.Ev
theorem cp_row (c:Cp):[c.e.getD 0 .nil,c.e.getD 1 .nil,c.e.getD 2 .nil,c.e.getD 3 .nil,c.e.getD 4 .nil,c.e.getD 5 .nil,c.e.getD 6 .nil,c.e.getD 7 .nil,c.e.getD 8 .nil,c.e.getD 9 .nil,c.e.getD 10 .nil,c.e.getD 11 .nil]=c.e:=rfl
section
variable {f:Fl} (hz:f.Sz 1048576)
include hz
theorem ahd_loop {i:Nat} (hi:i<f.cps.length) (L:List Cp) (hL:L.length≤60):lim (ap7 s_l5Queue.d1) ([.i (i:Nat),.i 0]++f.e++[.l (L.map Cp.e)])=some (.brk 2 ([.i (i:Nat),.i (insK ahd f.cps[i] L:Nat)]++f.e++[.l (L.map Cp.e)])):=by
 have hlb:L.length<big:=by simp only[big];omega
 have hle:=insK_le ahd f.cps[i] L
 obtain ⟨e1,e2⟩:=takeN (fun x=>ahd x f.cps[i]) L
 have hA:∀a:Cp,s_l5Ahead [a.e.getD 0 .nil,a.e.getD 1 .nil,a.e.getD 2 .nil,a.e.getD 3 .nil,a.e.getD 4 .nil,a.e.getD 5 .nil,a.e.getD 6 .nil,a.e.getD 7 .nil,a.e.getD 8 .nil,a.e.getD 9 .nil,a.e.getD 10 .nil,a.e.getD 11 .nil,f.cps[i].e.getD 0 .nil,f.cps[i].e.getD 1 .nil,f.cps[i].e.getD 2 .nil,f.cps[i].e.getD 3 .nil,f.cps[i].e.getD 4 .nil,f.cps[i].e.getD 5 .nil,f.cps[i].e.getD 6 .nil,f.cps[i].e.getD 7 .nil,f.cps[i].e.getD 8 .nil,f.cps[i].e.getD 9 .nil,f.cps[i].e.getD 10 .nil,f.cps[i].e.getD 11 .nil]=some [.b (ahd a f.cps[i])]:=fun a=>s_l5Ahead_eq a f.cps[i]
 have h:=run_loop (body:=ap7 s_l5Queue.d1) (S:=fun k=>[.i (i:Nat),.i (k:Nat)]++f.e++[C.l (L.map Cp.e)]) (n:=insK ahd f.cps[i] L) (b:=2) (ys:=[.i (i:Nat),.i (insK ahd f.cps[i] L:Nat)]++f.e++[C.l (L.map Cp.e)])
  (fun k hk=>by
   have hk':k<L.length:=by omega
   have hge:ahd L[k] f.cps[i]=true:=by
    have h1:(L.takeWhile fun x=>ahd x f.cps[i])[k]'hk=L[k]:=(List.takeWhile_prefix (fun x=>ahd x f.cps[i]) (l:=L)).getElem hk
    have:=mem_tw (p:=fun x=>ahd x f.cps[i]) _ (List.getElem_mem hk)
    rw[h1] at this
    exact this
   simp only[Fl.e,jA,jB,apL,jC,jD,s_l5Queue.d1,C.I_i,C.L_l,jW,ltL hk',ltL hi,decide_true,jR,jX,jY,getD_map' Cp.e hk',getD_map' Cp.e hi,w1 hk' hlb,hA,call1,jI,C.B_b,hge])
  (by
   simp only[Fl.e,jA,jB,apL,jC,jD,s_l5Queue.d1,C.I_i,C.L_l,jW]
   rcases Nat.lt_or_ge (insK ahd f.cps[i] L) L.length with h|h
   ·have hlt:ahd L[insK ahd f.cps[i] L] f.cps[i]=false:=by
     have hd:L.drop (insK ahd f.cps[i] L)=L.dropWhile fun x=>ahd x f.cps[i]:=e2
     have hne:L.dropWhile (fun x=>ahd x f.cps[i])≠[]:=by rw[←hd];intro h0;rw[List.drop_eq_nil_iff] at h0;omega
     have:=List.head_dropWhile_not (p:=fun x=>ahd x f.cps[i]) (l:=L) hne
     have h5:(L.drop (insK ahd f.cps[i] L)).head (by rw[hd];exact hne)=L[insK ahd f.cps[i] L]:=by simp[List.head_drop]
     simp only[←hd,h5] at this
     exact this
    simp only[ltL h,ltL hi,decide_true,jR,jX,jY,getD_map' Cp.e h,getD_map' Cp.e hi,hA,call1,jI,jC,C.B_b,hlt,jS]
   ·have:¬(((insK ahd f.cps[i] L:Nat):Int)<(L.length:Int)):=by omega
    simp only[this,decide_false,jS]) (insK ahd f.cps[i] L) 0 rfl
 exact h
theorem s_l5Queue_eq (hv:VB f):s_l5Queue f.e=some [.l (((queue f).map Cp.name).map sE)]:=by
 have hlc:f.cps.length<big:=by have:=hz.2.2.1;simp only[big];omega
 have h:=run_loop (body:=ap6 s_l5Queue.d4) (S:=fun i=>[C.i (i:Nat)]++f.e++[C.l ((insF ahd ((f.cps.take i).filter waitP)).map Cp.e)]) (n:=f.cps.length) (b:=0) (ys:=[C.l ((insF ahd ((f.cps.take f.cps.length).filter waitP)).map Cp.e)])
  (fun i hi=>by
   have hn:((f.cps.take i).filter waitP).length≤60:=by have:=waits_len f i;have:=hv.n60;omega
   have hil:(insF ahd ((f.cps.take i).filter waitP)).length≤60:=by
    have:=(insF_ok ahd ahd_irr ahd_trans ahd_ntr ((f.cps.take i).filter waitP) [] .nil).2.length_eq
    rw[List.append_nil] at this
    simp only[insF];omega
   have q0:(((f.cps[i].e.getD 11 C.nil).S).toList==(bs #[]).toList)=waitP f.cps[i]:=rfl
   have hI:=ahd_loop hz hi _ hil
   have hN:=insK_le ahd f.cps[i] (insF ahd ((f.cps.take i).filter waitP))
   simp only[Fl.e,jA,jB] at hI
   simp only[Fl.e,jA,jB,apL,jC,jD,s_l5Queue.d4,C.I_i,C.L_l,jW,ltL hi,decide_true,jR,jX,jY,getD_map' Cp.e hi,q0,waits_succ f hi]
   cases hw:waitP f.cps[i] with
   |false=>simp[s_l5Queue.d3,w1 hi hlc]
   |true=>
    simp only[jR,jZ,jS,insF_snoc]
    generalize insF ahd ((f.cps.take i).filter waitP)=L at hI hil hN⊢
    rw[hI]
    have q1:((insK ahd f.cps[i] L:Nat):Int)≤(L.length:Int):=by omega
    have q2:0+insK ahd f.cps[i] L≤4294967296:=by omega
    have q3:min (insK ahd f.cps[i] L) L.length=insK ahd f.cps[i] L:=by omega
    have q4:0+insK ahd f.cps[i] L+(0+1)≤4294967296:=by omega
    have q5:0+insK ahd f.cps[i] L+(0+1)+(L.length-insK ahd f.cps[i] L)≤4294967296:=by omega
    simp only[bindBlk_self,apL,jC,jD,s_l5Queue.d2,C.I_i,C.L_l,jW,q1,ltL hi,getD_map' Cp.e hi,cp_row,jX,decide_true,jR,jY,rows,List.length_append,List.length_drop,List.length_take,Nat.sub_zero,List.length_cons,List.length_nil,q2,q3,q4,q5,Int.le_refl,Nat.min_self,List.drop_zero,jB]
    have p1:insK ahd f.cps[i] L≤4294967295:=by omega
    have p2:insK ahd f.cps[i] L+1+(L.length-insK ahd f.cps[i] L)≤4294967296:=by omega
    simp[insQ,List.map_take,List.map_drop,List.take_of_length_le,p1,p2,s_l5Queue.d3,w1 hi hlc])
  (by simp[s_l5Queue.d4,Fl.e]) f.cps.length 0 rfl
 have hql:(queue f).length≤60:=by
  rw[(queue_perm f).length_eq]
  exact Nat.le_trans (List.length_filter_le _ _) hv.n60
 have h0:insF ahd (f.cps.filter waitP)=queue f:=rfl
 simp only[Fl.e,jA,jB,Int.natCast_zero,List.take_zero,List.filter_nil,show insF ahd ([]:List Cp)=[] from rfl,List.map_nil,List.take_length,h0] at h
 generalize queue f=q at h hql⊢
 have h2:=run_loop (body:=ap3 s_l5Queue.d5) (S:=fun i=>[C.i (i:Nat),C.l (q.map Cp.e),C.l (((q.take i).map Cp.name).map sE)]) (n:=q.length) (b:=4) (ys:=[C.l (((q.take q.length).map Cp.name).map sE)])
  (fun i hi=>by
   have hn:(q.take i).length+1≤4294967296:=by rw[List.length_take];omega
   have hs:[(q[i].e).getD 0 C.nil]=sE q[i].name:=rfl
   simp only[apL,jC,jD,s_l5Queue.d5,C.I_i,C.L_l,jW,ltL hi,decide_true,jR,jX,jY,getD_map' Cp.e hi,rows,List.length_cons,List.length_nil,Nat.zero_add,hn,hs,w1 hi (show q.length<big by simp only[big];omega),List.take_succ_eq_append_getElem hi,List.map_append]
   rfl)
  (by simp[s_l5Queue.d5]) q.length 0 rfl
 simp only[Int.natCast_zero,List.take_zero,List.map_nil,List.take_length] at h2
 simp only[s_l5Queue,s_l5Queue.d8,Fl.e,apL,jC,jD,show nils=([]:List (List C)) from rfl,h,bindBlk_self,s_l5Queue.d7,C.L_l,h2,s_l5Queue.d6,jV]
end
end Go.Ev
namespace Go.Ev
def lexC {α:Type} (lt:α→α→Bool):List α→List α→Int
 |[],[]=>0
 |[],_::_=>-1
 |_::_,[]=>1
 |x::a,y::b=>bif lt x y then-1 else bif lt y x then 1 else lexC lt a b
theorem lexC_neg {α:Type} {lt:α→α→Bool} (asym:∀x y,lt x y=true→lt y x=false):∀a b:List α,lexC lt b a=-lexC lt a b
 |[],[]=>rfl
 |[],_::_=>rfl
 |_::_,[]=>rfl
 |x::a,y::b=>by
  have ih:=lexC_neg asym a b
  simp only[lexC]
  cases h1:lt x y with
  |true=>rw[asym _ _ h1];rfl
  |false=>cases h2:lt y x<;>simp[ih]
theorem lex_loop {α:Type} {lt:α→α→Bool} {xs ys:List α} {body:List C→R} {S:Nat→List C} {K:List C→R} {b:Nat} (out:Int→List C)
  (hs:∀i (h1:i<xs.length) (h2:i<ys.length),body (S i)=bif lt xs[i] ys[i] then some (.ret (out (-1))) else bif lt ys[i] xs[i] then some (.ret (out 1)) else some (.again (S (i+1))))
  (he:∀i,(i=xs.length∨i=ys.length)→i≤xs.length→i≤ys.length→bindBlk b (lim body (S i)) K=some (.ret (out (if xs.length<ys.length then-1 else if ys.length<xs.length then 1 else 0)))):
  ∀k i,k+i=min xs.length ys.length→bindBlk b (lim body (S i)) K=some (.ret (out (lexC lt (xs.drop i) (ys.drop i))))
 |0,i,h=>by
  rw[he i (by omega) (by omega) (by omega)]
  congr 3
  by_cases h1:xs.length<ys.length
  ·rw[if_pos h1,List.drop_of_length_le (show xs.length≤i by omega),List.drop_eq_getElem_cons (show i<ys.length by omega)];rfl
  ·rw[if_neg h1]
   by_cases h2:ys.length<xs.length
   ·rw[if_pos h2,List.drop_of_length_le (show ys.length≤i by omega),List.drop_eq_getElem_cons (show i<xs.length by omega)];rfl
   ·rw[if_neg h2,List.drop_of_length_le (show xs.length≤i by omega),List.drop_of_length_le (show ys.length≤i by omega)];rfl
 |k+1,i,h=>by
  have h1:i<xs.length:=by omega
  have h2:i<ys.length:=by omega
  have hb:=hs i h1 h2
  rw[List.drop_eq_getElem_cons h1,List.drop_eq_getElem_cons h2]
  simp only[lexC]
  cases q1:lt xs[i] ys[i] with
  |true=>rw[q1] at hb;rw[lim_ret hb];rfl
  |false=>
   rw[q1] at hb
   cases q2:lt ys[i] xs[i] with
   |true=>rw[q2] at hb;rw[lim_ret hb];rfl
   |false=>rw[q2] at hb;rw[lim_again hb,lex_loop out hs he k (i+1) (by omega)];rfl
def ltI (x y:Int):Bool:=decide (x<y)
theorem ltI_asym (x y:Int) (h:ltI x y=true):ltI y x=false:=by simp[ltI] at*;omega
theorem cmpI_eq (x y:Int):cmp_Compare_int [.i x,.i y]=some [.i (bif ltI x y then-1 else bif ltI y x then 1 else 0)]:=by
 simp only[cmp_Compare_int,cmp_Compare_int.d1,cmp_isNaN_int,cmp_isNaN_int.d1,apL,jC,jD,C.I_i,bne_self_eq_false,jV,call1,jI,C.B_b,jS,ltI,gt_iff_lt]
 by_cases h1:x<y
 ·simp[h1]
 ·by_cases h2:y<x<;>simp[h1,h2]
theorem cmpS_eq (x y:Str) (hx:True):cmp_Compare_string [.s x,.s y]=some [.i (bif sLt x y then-1 else bif sLt y x then 1 else 0)]:=by
 have e:(!(Op.bytesLess x.toList y.toList||x.toList==y.toList))=sLt y x:=by
  have:=sLt_not x y
  show (!(sLt x y||sEq x y))=_
  rw[this,Bool.not_not]
 have hn:∀z:Str,cmp_isNaN_string [.s z]=some [.b false]:=fun z=>by
  simp[cmp_isNaN_string,cmp_isNaN_string.d1]
 simp only[cmp_Compare_string,cmp_Compare_string.d1,hn,apL,jC,jD,C.S_s,call1,jI,C.B_b,jS,e,jV]
 show finR (bif sLt x y then _ else _)=_
 cases sLt x y<;>cases sLt y x<;>rfl
theorem slices_Compare_int_eq (xs ys:List Int) (hx:xs.length≤1048576) (hy:ys.length≤1048576):slices_Compare_int [.l (xs.map iE),.l (ys.map iE)]=some [.i (lexC ltI xs ys)]:=by
 have hb:xs.length<big:=by simp only[big];omega
 have h:=lex_loop (lt:=ltI) (xs:=xs) (ys:=ys) (body:=ap5 slices_Compare_int.d1) (S:=fun i=>[.l (xs.map iE),.l (ys.map iE),.l (xs.map iE),.i (xs.length:Nat),.i (i:Nat)]) (K:=ap2 slices_Compare_int.d2) (b:=0) (fun n=>[.i n])
  (fun i h1 h2=>by
   have n1:¬((i:Int)≥(ys.length:Int)):=by omega
   simp only[apL,jC,jD,slices_Compare_int.d1,C.I_i,C.L_l,jW,ltL h1,ltL h2,n1,decide_true,decide_false,jR,jS,jX,jY,getD_map' iE h1,getD_map' iE h2,w1 h1 hb]
   simp only[iE,jC,cmpI_eq,call1,jI,C.I_i]
   cases ltI xs[i] ys[i]<;>cases ltI ys[i] xs[i]<;>rfl)
  (fun i h0 h1 h2=>by
   rcases Nat.lt_or_ge i xs.length with h|h
   ·have hi:i=ys.length:=by omega
    subst hi
    have hr:ap5 slices_Compare_int.d1 [.l (xs.map iE),.l (ys.map iE),.l (xs.map iE),.i (xs.length:Nat),.i (ys.length:Nat)]=some (.ret [.i 1]):=by
     have n1:((ys.length:Int)≥(ys.length:Int)):=by omega
     simp only[apL,jC,jD,slices_Compare_int.d1,C.I_i,C.L_l,jW,ltL h,n1,decide_true,jR,jX]
    rw[lim_ret hr,if_neg (by omega),if_pos h];rfl
   ·have hi:i=xs.length:=by omega
    subst hi
    have hr:ap5 slices_Compare_int.d1 [.l (xs.map iE),.l (ys.map iE),.l (xs.map iE),.i (xs.length:Nat),.i (xs.length:Nat)]=some (.brk 0 [.l (xs.map iE),.l (ys.map iE)]):=by
     simp[slices_Compare_int.d1]
    rw[lim_brk hr]
    simp only[bindBlk_self,apL,jC,jD,slices_Compare_int.d2,C.L_l,jW]
    by_cases h3:xs.length<ys.length
    ·rw[if_pos h3,ltL h3];rfl
    ·have:¬((xs.length:Int)<(ys.length:Int)):=by omega
     rw[if_neg h3,if_neg (by omega)];simp[this])
  (min xs.length ys.length) 0 (by omega)
 simp only[Int.natCast_zero,List.drop_zero] at h
 simp only[slices_Compare_int,slices_Compare_int.d3,apL,jC,jD,C.L_l,jW,h,jV]
theorem slices_Compare_string_eq (xs ys:List Str) (hx:xs.length≤1048576) (hy:ys.length≤1048576):slices_Compare_string [.l (xs.map sE),.l (ys.map sE)]=some [.i (lexC sLt xs ys)]:=by
 have hb:xs.length<big:=by simp only[big];omega
 have h:=lex_loop (lt:=sLt) (xs:=xs) (ys:=ys) (body:=ap5 slices_Compare_string.d1) (S:=fun i=>[.l (xs.map sE),.l (ys.map sE),.l (xs.map sE),.i (xs.length:Nat),.i (i:Nat)]) (K:=ap2 slices_Compare_string.d2) (b:=0) (fun n=>[.i n])
  (fun i h1 h2=>by
   have n1:¬((i:Int)≥(ys.length:Int)):=by omega
   simp only[apL,jC,jD,slices_Compare_string.d1,C.I_i,C.L_l,jW,ltL h1,ltL h2,n1,decide_true,decide_false,jR,jS,jX,jY,getD_map' sE h1,getD_map' sE h2,w1 h1 hb]
   simp only[sE,jC,cmpS_eq _ _ trivial,call1,jI,C.I_i]
   cases sLt xs[i] ys[i]<;>cases sLt ys[i] xs[i]<;>rfl)
  (fun i h0 h1 h2=>by
   rcases Nat.lt_or_ge i xs.length with h|h
   ·have hi:i=ys.length:=by omega
    subst hi
    have hr:ap5 slices_Compare_string.d1 [.l (xs.map sE),.l (ys.map sE),.l (xs.map sE),.i (xs.length:Nat),.i (ys.length:Nat)]=some (.ret [.i 1]):=by
     have n1:((ys.length:Int)≥(ys.length:Int)):=by omega
     simp only[apL,jC,jD,slices_Compare_string.d1,C.I_i,C.L_l,jW,ltL h,n1,decide_true,jR,jX]
    rw[lim_ret hr,if_neg (by omega),if_pos h];rfl
   ·have hi:i=xs.length:=by omega
    subst hi
    have hr:ap5 slices_Compare_string.d1 [.l (xs.map sE),.l (ys.map sE),.l (xs.map sE),.i (xs.length:Nat),.i (xs.length:Nat)]=some (.brk 0 [.l (xs.map sE),.l (ys.map sE)]):=by
     simp[slices_Compare_string.d1]
    rw[lim_brk hr]
    simp only[bindBlk_self,apL,jC,jD,slices_Compare_string.d2,C.L_l,jW]
    by_cases h3:xs.length<ys.length
    ·rw[if_pos h3,ltL h3];rfl
    ·have:¬((xs.length:Int)<(ys.length:Int)):=by omega
     rw[if_neg h3,if_neg (by omega)];simp[this])
  (min xs.length ys.length) 0 (by omega)
 simp only[Int.natCast_zero,List.drop_zero] at h
 simp only[slices_Compare_string,slices_Compare_string.d3,apL,jC,jD,C.L_l,jW,h,jV]
theorem lex_end (n m:Nat):decide ((if n<m then (-1:Int) else if m<n then 1 else 0)<0)=decide (n<m):=by
 by_cases h:n<m
 ·simp[h]
 ·by_cases h2:m<n<;>simp[h,h2]
theorem s_PilotLess_eq (xs ys:List Int) (hx:xs.length≤1048576) (hy:ys.length≤1048576):s_PilotLess [.l (xs.map iE),.l (ys.map iE)]=some [.b (decide (lexC ltI xs ys<0))]:=by
 have hb:xs.length<big:=by simp only[big];omega
 have h:=lex_loop (lt:=ltI) (xs:=xs) (ys:=ys) (body:=ap3 s_PilotLess.d1) (S:=fun i=>[.l (xs.map iE),.l (ys.map iE),.i (i:Nat)]) (K:=ap2 s_PilotLess.d2) (b:=0) (fun n=>[.b (decide (n<0))])
  (fun i h1 h2=>by
   simp only[apL,jC,jD,s_PilotLess.d1,C.I_i,C.L_l,jW,ltL h1,ltL h2,decide_true,decide_false,jR,jS,jX,jY,getD_map' iE h1,getD_map' iE h2,w1 h1 hb]
   simp only[iE,jC,C.I_i,ltI]
   rcases Int.lt_trichotomy xs[i] ys[i] with h|h|h
   ·have:(xs[i] !=ys[i])=true:=by rw[bne_iff_ne];omega
    simp[this,h]
   ·rw[h];simp
   ·have:(xs[i] !=ys[i])=true:=by rw[bne_iff_ne];omega
    have h':¬xs[i]<ys[i]:=by omega
    simp[this,h,h'])
  (fun i h0 h1 h2=>by
   have hr:ap3 s_PilotLess.d1 [.l (xs.map iE),.l (ys.map iE),.i (i:Nat)]=some (.brk 0 [.l (xs.map iE),.l (ys.map iE)]):=by
    simp only[apL,jC,jD,s_PilotLess.d1,C.I_i,C.L_l,jW]
    rcases Nat.lt_or_ge i xs.length with h|h
    ·have:¬((i:Int)<(ys.length:Int)):=by omega
     simp only[ltL h,this,decide_false,jR,jS]
    ·have:¬((i:Int)<(xs.length:Int)):=by omega
     simp only[this,decide_false,jS]
   rw[lim_brk hr,lex_end]
   simp only[bindBlk_self,apL,jC,jD,s_PilotLess.d2,C.L_l,jW]
   congr 5
   simp)
  (min xs.length ys.length) 0 (by omega)
 simp only[Int.natCast_zero,List.drop_zero] at h
 simp only[s_PilotLess,s_PilotLess.d3,apL,jC,jD,h,jV]
theorem s_l6Names_eq (xs ys:List Str) (hx:xs.length≤1048576) (hy:ys.length≤1048576):s_l6Names [.l (xs.map sE),.l (ys.map sE)]=some [.b (decide (lexC sLt xs ys<0))]:=by
 have hb:xs.length<big:=by simp only[big];omega
 have h:=lex_loop (lt:=sLt) (xs:=xs) (ys:=ys) (body:=ap3 s_l6Names.d1) (S:=fun i=>[.l (xs.map sE),.l (ys.map sE),.i (i:Nat)]) (K:=ap2 s_l6Names.d2) (b:=0) (fun n=>[.b (decide (n<0))])
  (fun i h1 h2=>by
   simp only[apL,jC,jD,s_l6Names.d1,C.I_i,C.L_l,jW,ltL h1,ltL h2,decide_true,decide_false,jR,jS,jX,jY,getD_map' sE h1,getD_map' sE h2,w1 h1 hb]
   simp only[sE,jC,C.S_s]
   have e:=sLt_not xs[i] ys[i]
   show (bif !(sEq xs[i] ys[i]) then some (Out.ret [C.b (sLt xs[i] ys[i])]) else _)=_
   cases h1:sLt xs[i] ys[i]<;>cases h2:sLt ys[i] xs[i]<;>cases h3:sEq xs[i] ys[i]<;>simp_all
   all_goals (rw[sEq_iff] at h3;rw[h3,sLt_irr] at h1;cases h1))
  (fun i h0 h1 h2=>by
   have hr:ap3 s_l6Names.d1 [.l (xs.map sE),.l (ys.map sE),.i (i:Nat)]=some (.brk 0 [.l (xs.map sE),.l (ys.map sE)]):=by
    simp only[apL,jC,jD,s_l6Names.d1,C.I_i,C.L_l,jW]
    rcases Nat.lt_or_ge i xs.length with h|h
    ·have:¬((i:Int)<(ys.length:Int)):=by omega
     simp only[ltL h,this,decide_false,jR,jS]
    ·have:¬((i:Int)<(xs.length:Int)):=by omega
     simp only[this,decide_false,jS]
   rw[lim_brk hr,lex_end]
   simp only[bindBlk_self,apL,jC,jD,s_l6Names.d2,C.L_l,jW]
   congr 5
   simp)
  (min xs.length ys.length) 0 (by omega)
 simp only[Int.natCast_zero,List.drop_zero] at h
 simp only[s_l6Names,s_l6Names.d3,apL,jC,jD,h,jV]
end Go.Ev
namespace Go.Ev
def candP (c:Cp) (b:Bt) (d:Cp):Bool:=sEq d.at_ b.name&&decide (d.rank<c.rank)
def cands (f:Fl) (c:Cp) (b:Bt):List Cp:=f.cps.filter (candP c b)
def bitAt (set i:Nat):Bool:=set/2^i%2==1
def subN (l:List Cp) (set:Nat):Nat→List Cp
 |0=>[]
 |i+1=>match l[i]? with
  |some d=>bif bitAt set i then subN l set i++[d] else subN l set i
  |none=>subN l set i
theorem subN_succ {l:List Cp} {i:Nat} (set:Nat) (h:i<l.length):subN l set (i+1)=bif bitAt set i then subN l set i++[l[i]] else subN l set i:=by
 simp[subN,h]
theorem subN_mem {l:List Cp} {set:Nat} {x:Cp}:∀ {i:Nat},x∈subN l set i→x∈l
 |0,h=>by simp[subN] at h
 |i+1,h=>by
  simp only[subN] at h
  cases hl:l[i]? with
  |none=>rw[hl] at h;exact subN_mem h
  |some d=>
   rw[hl] at h
   simp only at h
   cases hb:bitAt set i with
   |false=>rw[hb] at h;exact subN_mem h
   |true=>
    rw[hb,jR] at h
    rcases List.mem_append.1 h with h|h
    ·exact subN_mem h
    ·rw[List.mem_singleton] at h
     rw[h];exact List.mem_of_getElem? hl
theorem subN_len (l:List Cp) (set:Nat):∀i,(subN l set i).length≤i
 |0=>Nat.le_refl _
 |i+1=>by
  have ih:=subN_len l set i
  simp only[subN]
  split
  ·cases bitAt set i<;>simp<;>omega
  ·omega
def subL (f:Fl) (c:Cp) (b:Bt) (set:Nat):List Str:=(subN (cands f c b) set (cands f c b).length).map Cp.name
structure Known (f:Fl) (l:List Str):Prop where
 len:l.length≤f.cps.length
 mem:∀s,s∈l→∃d,d∈f.cps∧d.name=s
theorem known_sub (f:Fl) (c:Cp) (b:Bt) (set:Nat):Known f (subL f c b set):=by
 refine ⟨?_,fun s hs=>?_⟩
 ·rw[subL,jW]
  exact Nat.le_trans (subN_len _ _ _) (List.length_filter_le _ _)
 ·rw[subL,List.mem_map] at hs
  obtain ⟨d,hd,rfl⟩:=hs
  exact ⟨d,(List.mem_filter.1 (subN_mem hd)).1,rfl⟩
theorem known_nil (f:Fl):Known f []:=⟨Nat.zero_le _,fun s hs=>by simp at hs⟩
theorem cIx_name {f:Fl} (hu:UniqF f.cps) {d:Cp} (hd:d∈f.cps):∃k,∃hk:k<f.cps.length,cIx f d.name=(k:Nat)∧f.cps[k]=d:=by
 rcases cIx_at f d.name with h|⟨k,hk,h,e⟩
 ·have:=findIx_neg _ _ _ h
  have h2:f.cps.any (fun x:Cp=>sEq x.name d.name)=true:=List.any_eq_true.2 ⟨d,hd,(sEq_iff _ _).2 rfl⟩
  rw[this] at h2;cases h2
 ·exact ⟨k,hk,h,uniq_mem hu (List.getElem_mem hk) hd e⟩
theorem rank_name {f:Fl} (hu:UniqF f.cps) {d:Cp} (hd:d∈f.cps):rankOf f d.name=d.rank:=by
 obtain ⟨k,hk,h,rfl⟩:=cIx_name hu hd
 simp[rankOf,h,hk]
theorem ranks_sub {f:Fl} (hu:UniqF f.cps) {l:List Cp} (h:∀d,d∈l→d∈f.cps):ranksOf f (l.map Cp.name)=l.map Cp.rank:=by
 rw[ranksOf,List.map_map]
 exact List.map_congr_left fun d hd=>rank_name hu (h d hd)
theorem Known.sz {f:Fl} {l:List Str} (h:Known f l) (hz:f.Sz 1048576):SsSz 1048576 l:=by
 refine ⟨Nat.le_trans h.len hz.2.2.1,fun s hs=>?_⟩
 obtain ⟨d,hd,rfl⟩:=h.mem s hs
 exact (hz.2.2.2 d hd).1
theorem Known.ix {f:Fl} {l:List Str} (h:Known f l) (hu:UniqF f.cps):∀j (hj:j<l.length),∃k,∃hk:k<f.cps.length,cIx f l[j]=(k:Nat)∧sEq f.cps[k].name l[j]=true:=by
 intro j hj
 obtain ⟨d,hd,e⟩:=h.mem l[j] (List.getElem_mem hj)
 obtain ⟨k,hk,h1,h2⟩:=cIx_name hu hd
 exact ⟨k,hk,by rw[←e];exact h1,by rw[h2,e];exact (sEq_iff _ _).2 rfl⟩
theorem Known.there {f:Fl} {l:List Str} (h:Known f l) (hu:UniqF f.cps):allFrom (thereA f l) 0 l.length=true:=by
 rw[allFrom_iff]
 intro j _ hj
 have hj:j<l.length:=by omega
 obtain ⟨k,hk,h1,_⟩:=h.ix hu j hj
 rw[thereA,sAt_get hj,h1]
 simp
def harmS (f:Fl) (l:List Str):List Int:=insAll (ranksOf f l)
theorem harmS_len {f:Fl} {l:List Str} (h:Known f l):(harmS f l).length≤f.cps.length:=by
 rw[harmS,insAll_len,ranksOf,jW];exact h.len
def worse (f:Fl) (l best:List Str):Bool:=decide (0<lexC ltI (harmS f l) (harmS f best))||(lexC ltI (harmS f l) (harmS f best)==0&&decide (0≤lexC sLt l best))
def mayB (f:Fl) (c:Cp) (b:Bt) (l:List Str):Bool:=mayGo f l&&(fitsN (goF f l) c b false==0)
def stepV (f:Fl) (c:Cp) (b:Bt) (st:Option (List Str)) (l:List Str):Option (List Str):=
 bif (match st with|some best=>worse f l best|none=>false) then st else bif mayB f c b l then some l else st
def vic (f:Fl) (c:Cp) (b:Bt):Nat→Option (List Str)
 |0=>none
 |k+1=>stepV f c b (vic f c b k) (subL f c b k)
theorem vic_known (f:Fl) (c:Cp) (b:Bt):∀k,Known f ((vic f c b k).getD [])
 |0=>known_nil f
 |k+1=>by
  have ih:=vic_known f c b k
  simp only[vic,stepV]
  generalize (match vic f c b k with|some best=>worse f (subL f c b k) best|none=>false)=q
  cases q with
  |true=>exact ih
  |false=>
   cases mayB f c b (subL f c b k) with
   |false=>exact ih
   |true=>exact known_sub f c b k
theorem bit_div (set i:Nat):(((set:Int).fdiv (2^i)).tmod 2==1)=bitAt set i:=by
 have e:(set:Int).fdiv (2^i)=((set/2^i:Nat):Int):=by
  rw[Int.fdiv_eq_ediv_of_nonneg _ (Int.pow_nonneg (by decide))]
  simp
 rw[e,bitAt,Int.tmod_eq_emod_of_nonneg (jX _)]
 generalize set/2^i=n
 rw[Bool.eq_iff_iff,beq_iff_eq,beq_iff_eq]
 omega
theorem bit_and (set i:Nat) (hs:set<9223372036854775808):(w64 ((BitVec.ofInt (IntKind.bits .i64) ((set:Int).fdiv (2^i))&&& BitVec.ofInt (IntKind.bits .i64) 1).toNat:Int)==1)=bitAt set i:=by
 have e:(set:Int).fdiv (2^i)=((set/2^i:Nat):Int):=by
  rw[Int.fdiv_eq_ediv_of_nonneg _ (Int.pow_nonneg (by decide))]
  simp
 rw[e,bitAt]
 have hn:set/2^i<9223372036854775808:=Nat.lt_of_le_of_lt (Nat.div_le_self _ _) hs
 generalize set/2^i=n at hn
 have e2:(BitVec.ofInt (IntKind.bits .i64) (n:Int)&&& BitVec.ofInt (IntKind.bits .i64) 1).toNat=n%2:=by
  rw[BitVec.toNat_and]
  have h1:(BitVec.ofInt (IntKind.bits .i64) (n:Int)).toNat=n:=by
   show (BitVec.ofInt 64 (n:Int)).toNat=n
   rw[BitVec.toNat_ofInt]
   omega
  have h2:(BitVec.ofInt (IntKind.bits .i64) 1).toNat=1:=by decide
  rw[h1,h2,Nat.and_one_is_mod]
 rw[e2,w64_of (by omega) (by omega),Bool.eq_iff_iff,beq_iff_eq,beq_iff_eq]
 omega
theorem cands_len {f:Fl} (hv:VB f) (c:Cp) (b:Bt):(cands f c b).length≤60:=Nat.le_trans (List.length_filter_le _ _) hv.n60
theorem shl_one {n:Nat} (h:n≤60):w64 (1*2^(min n 64))=((2^n:Nat):Int)∧2^n<9223372036854775808:=by
 have e:min n 64=n:=by omega
 have h2:2^n≤2^60:=Nat.pow_le_pow_right (by decide) h
 have h3:(2:Nat)^60=1152921504606846976:=by decide
 rw[h3] at h2
 have e2:(1*2^n:Int)=((2^n:Nat):Int):=by simp
 rw[e,e2]
 generalize 2^n=N at h2
 rw[w64_of (by omega) (by omega)]
 exact ⟨rfl,by omega⟩
theorem cands_succ (f:Fl) (c:Cp) (b:Bt) {i:Nat} (h:i<f.cps.length):(f.cps.take (i+1)).filter (candP c b)=bif candP c b f.cps[i] then (f.cps.take i).filter (candP c b)++[f.cps[i]] else (f.cps.take i).filter (candP c b):=by
 rw[List.take_succ_eq_append_getElem h,List.filter_append]
 cases hw:candP c b f.cps[i]<;>simp[hw]
theorem filter_len (p:Cp→Bool) (f:Fl) (i:Nat):((f.cps.take i).filter p).length≤f.cps.length:=
 Nat.le_trans (List.length_filter_le _ _) (by rw[List.length_take];omega)
end Go.Ev
namespace Go.Ev
theorem worse_spec {f:Fl} (l best:List Str):(decide (lexC ltI (harmS f best) (harmS f l)<0)||(!decide (lexC ltI (harmS f l) (harmS f best)<0)&&!decide (lexC sLt l best<0)))=worse f l best:=by
 rw[lexC_neg ltI_asym (harmS f l) (harmS f best)]
 unfold worse
 generalize lexC ltI (harmS f l) (harmS f best)=k
 generalize lexC sLt l best=m
 rcases Int.lt_trichotomy k 0 with h|h|h
 ·have h1:¬-k<0:=by omega
  have h2:¬0<k:=by omega
  have h3:(k==0)=false:=by rw[beq_eq_false_iff_ne];omega
  simp[h,h1,h2,h3]
 ·subst h
  simp
  rw[←decide_not,decide_eq_decide];omega
 ·have h1:-k<0:=by omega
  simp[h,h1]
section
variable {f:Fl} (hz:f.Sz 1048576) {c:Cp} (hc:c.Sz 1048576) {b:Bt} (hb:b.Sz 1048576) (hbo:berthOk b=true) (hv:validF f=true) (hr:0≤c.room∧c.room≤1000) (hh:0≤c.hold∧c.hold≤1000)
include hz hc hb hbo hv hr hh
theorem s_cand_loop:lim (ap24 s_l6Victims.d1) ([.i 0]++f.e++c.e++b.e++[.l nils])=some (.brk 0 (f.e++c.e++b.e++[.l (((cands f c b).map Cp.name).map sE)])):=by
 have hlc:f.cps.length<big:=by have:=hz.2.2.1;simp only[big];omega
 have h:=run_loop (body:=ap24 s_l6Victims.d1) (S:=fun i=>[C.i (i:Nat)]++f.e++c.e++b.e++[C.l ((((f.cps.take i).filter (candP c b)).map Cp.name).map sE)]) (n:=f.cps.length) (b:=0) (ys:=f.e++c.e++b.e++[.l ((((f.cps.take f.cps.length).filter (candP c b)).map Cp.name).map sE)])
  (fun i hi=>by
   have hn:((f.cps.take i).filter (candP c b)).length+1≤4294967296:=by have:=filter_len (candP c b) f i;have:=hz.2.2.1;omega
   have q0:(((f.cps[i].e.getD 11 C.nil).S).toList==b.name.toList)=sEq f.cps[i].at_ b.name:=rfl
   have q1:((f.cps[i].e.getD 2 C.nil).I)=f.cps[i].rank:=rfl
   have hs:[f.cps[i].e.getD 0 C.nil]=sE f.cps[i].name:=rfl
   simp only[Fl.e,Cp.e,Bt.e,jA,jB,apL,jC,jD,s_l6Victims.d1,C.I_i,C.L_l,C.S_s,jW,ltL hi,decide_true,jR,jX,jY,getD_map' Cp.e hi]
   simp only[Cp.e,jC,jD,C.S_s,C.I_i] at q0 q1 hs⊢
   rw[cands_succ f c b hi]
   simp only[candP,q0]
   cases sEq f.cps[i].at_ b.name with
   |false=>simp[w1 hi hlc]
   |true=>
    cases hd:decide (f.cps[i].rank<c.rank) with
    |false=>simp[w1 hi hlc]
    |true=>
     simp only[jR,Bool.and_self,hs,rows,List.length_cons,List.length_nil,Nat.zero_add,hn,decide_true,w1 hi hlc,List.map_append,List.map_cons,List.map_nil])
  (by simp[s_l6Victims.d1,Fl.e,Cp.e,Bt.e]) f.cps.length 0 rfl
 simp only[Int.natCast_zero,List.take_zero,List.filter_nil,List.map_nil,List.take_length] at h
 exact h
theorem s_bit_loop (fo:Bool) (set:Nat) (hs:set<9223372036854775808) (cs:List Cp) (hcs:cs.length≤60) (best:List (List C)):lim (ap28 s_l6Victims.d2) ([.b fo,.i set,.i 0]++f.e++c.e++b.e++[.l ((cs.map Cp.name).map sE),.l best,.l nils])=
  some (.brk 4 ([.b fo,.i set]++f.e++c.e++b.e++[.l ((cs.map Cp.name).map sE),.l best,.l (((subN cs set cs.length).map Cp.name).map sE)])):=by
 have hlc:cs.length<big:=by simp only[big];omega
 have h:=run_loop (body:=ap28 s_l6Victims.d2) (S:=fun i=>[C.b fo,C.i set,C.i (i:Nat)]++f.e++c.e++b.e++[.l ((cs.map Cp.name).map sE),.l best,C.l (((subN cs set i).map Cp.name).map sE)]) (n:=cs.length) (b:=4) (ys:=[C.b fo,C.i set]++f.e++c.e++b.e++[.l ((cs.map Cp.name).map sE),.l best,C.l (((subN cs set cs.length).map Cp.name).map sE)])
  (fun i hi=>by
   have hi':i<(cs.map Cp.name).length:=by simpa using hi
   have hn:(subN cs set i).length+1≤4294967296:=by have:=subN_len cs set i;omega
   have hmin:min i 64=i:=by omega
   have hgn:((cs.map Cp.name).map sE).getD i []=sE cs[i].name:=by
    rw[getD_map' sE hi'];simp
   have hs1:[(sE cs[i].name).getD 0 C.nil]=sE cs[i].name:=rfl
   simp only[Fl.e,Cp.e,Bt.e,jA,jB,apL,jC,jD,s_l6Victims.d2,C.I_i,C.L_l,C.S_s,jW,ltL hi,decide_true,jR,jX,jY,hmin,bit_div,hgn,hs1,rows,List.length_cons,List.length_nil,Nat.zero_add,hn,w1 hi hlc,subN_succ set hi]
   cases bitAt set i<;>simp)
  (by simp[s_l6Victims.d2,Fl.e,Cp.e,Bt.e]) cs.length 0 rfl
 exact h
theorem s_try {st:Option (List Str)} (hst:Known f (st.getD [])) {l:List Str} (hl:Known f l) (set:Int) (nm:List (List C)):
  ap27 s_l6Victims.d3 ([.b st.isSome,.i set]++f.e++c.e++b.e++[.l nm,.l ((st.getD []).map sE),.l (l.map sE)])=
  some (.brk 3 ([.b (bif mayB f c b l then some l else st).isSome,.i set]++f.e++c.e++b.e++[.l nm,.l (((bif mayB f c b l then some l else st).getD []).map sE)])):=by
 have hu:=uniq_of hv
 have hm:=s_l6MayGo_eq hz (hl.sz hz) hv
 have hw:=s_l6Without_eq hz l (hl.sz hz).1 hu (hl.ix hu)
 have F1:=s_l3Fits_eq (goF_sz hz l) hc hb hbo (goF_vb (vb_of hv) l) hr hh false
 have fe:(((fitsN (goF f l) c b false:Nat):Int)==0)=(fitsN (goF f l) c b false==0):=by rw[Bool.eq_iff_iff,beq_iff_eq,beq_iff_eq];omega
 simp only[Fl.e,Cp.e,Bt.e,jA,jB] at hm hw F1
 simp only[Fl.e,Cp.e,Bt.e,jA,jB,apL,jC,jD,s_l6Victims.d3,C.L_l,hm,call1,jI,C.B_b,mayB]
 cases mayGo f l with
 |false=>simp
 |true=>
  simp only[jR,hw,call4,jI,jC,jD,C.L_l,F1,C.I_i,fe,Bool.true_and]
  cases fitsN (goF f l) c b false==0<;>simp
theorem s_step {st:Option (List Str)} (hst:Known f (st.getD [])) {l:List Str} (hl:Known f l) (set:Int) (nm:List (List C)):
  ap27 s_l6Victims.d4 ([.b st.isSome,.i set]++f.e++c.e++b.e++[.l nm,.l ((st.getD []).map sE),.l (l.map sE)])=
  some (.brk 3 ([.b (stepV f c b st l).isSome,.i set]++f.e++c.e++b.e++[.l nm,.l (((stepV f c b st l).getD []).map sE)])):=by
 have ht:=s_try hz hc hb hbo hv hr hh hst hl set nm
 have hu:=uniq_of hv
 cases st with
 |none=>
  simp only[Option.isSome_none,Fl.e,Cp.e,Bt.e,jA,jB,apL,jC,jD] at ht
  simp only[Option.isSome_none,Fl.e,Cp.e,Bt.e,jA,jB,apL,jC,jD,s_l6Victims.d4,C.B_b,C.L_l,jS,jJ,ht,stepV]
 |some best=>
  have hst:Known f best:=hst
  have h1:=s_l6Harm_eq hz l (hl.sz hz) (hl.there hu)
  have h2:=s_l6Harm_eq hz best (hst.sz hz) (hst.there hu)
  have hn60:=(vb_of hv).n60
  have b1:=harmS_len hl
  have b2:=harmS_len hst
  have b3:=hl.len
  have b4:=hst.len
  have l1:=s_PilotLess_eq (harmS f best) (harmS f l) (by omega) (by omega)
  have l2:=s_PilotLess_eq (harmS f l) (harmS f best) (by omega) (by omega)
  have l3:=s_l6Names_eq l best (by omega) (by omega)
  have hw:=worse_spec (f:=f) l best
  simp only[Fl.e,jA,jB] at h1 h2
  rw[show insAll (ranksOf f l)=harmS f l from rfl] at h1
  rw[show insAll (ranksOf f best)=harmS f best from rfl] at h2
  simp only[Option.isSome_some,Option.getD_some,Fl.e,Cp.e,Bt.e,jA,jB,apL,jC,jD] at ht
  simp only[Option.isSome_some,Option.getD_some,Fl.e,Cp.e,Bt.e,jA,jB,apL,jC,jD,s_l6Victims.d4,C.B_b,C.L_l,jR,h1,h2,l1,l2,l3,call1,jI,stepV,←hw]
  cases decide (lexC ltI (harmS f best) (harmS f l)<0) with
  |true=>simp
  |false=>
   simp only[ja,jR,Bool.false_or]
   cases decide (lexC ltI (harmS f l) (harmS f best)<0) with
   |true=>simp only[jZ,jS,Bool.false_and,jJ,apL,jC,jD,ht]
   |false=>
    simp only[ja,jR,Bool.true_and]
    cases decide (lexC sLt l best<0) with
    |true=>simp only[jZ,jS,jJ,apL,jC,jD,ht]
    |false=>simp
def vicAll (f:Fl) (c:Cp) (b:Bt):Option (List Str):=vic f c b (2^(cands f c b).length)
theorem s_l6Victims_eq:s_l6Victims (f.e++c.e++b.e)=some [.b (vicAll f c b).isSome,.l (((vicAll f c b).getD []).map sE)]:=by
 have hcl:=cands_len (vb_of hv) c b
 obtain ⟨p1,p2⟩:=shl_one hcl
 have h0:=s_cand_loop hz hc hb hbo hv hr hh
 have h:=run_loop (body:=ap26 s_l6Victims.d6) (S:=fun k=>[C.b (vic f c b k).isSome,C.i (k:Nat)]++f.e++c.e++b.e++[C.l (((cands f c b).map Cp.name).map sE),C.l (((vic f c b k).getD []).map sE)]) (n:=2^(cands f c b).length) (b:=2) (ys:=[C.b (vicAll f c b).isSome,C.l (((vicAll f c b).getD []).map sE)])
  (fun k hk=>by
   have hb1:=s_bit_loop hz hc hb hbo hv hr hh (vic f c b k).isSome k (by omega) (cands f c b) hcl (((vic f c b k).getD []).map sE)
   have hs1:=s_step hz hc hb hbo hv hr hh (vic_known f c b k) (known_sub f c b k) (k:Nat) (((cands f c b).map Cp.name).map sE)
   have hlt:((k:Int)<((2^(cands f c b).length:Nat):Int)):=by omega
   have hw:w64 ((k:Int)+1)=((k+1:Nat):Int):=by rw[w64_of (by omega) (by omega)];omega
   rw[show ((subN (cands f c b) k (cands f c b).length).map Cp.name)=subL f c b k from rfl] at hb1
   simp only[Fl.e,Cp.e,Bt.e,jA,jB] at hb1 hs1
   simp only[Fl.e,Cp.e,Bt.e,jA,jB,apL,jC,jD,s_l6Victims.d6,C.I_i,C.L_l,jW,jX,decide_true,jR,jY,p1,hlt,show nils=([]:List (List C)) from rfl] at hb1⊢
   rw[hb1]
   simp only[bindBlk_self,hs1,apL,jC,jD,s_l6Victims.d5,C.I_i,C.L_l,hw]
   rfl)
  (by
   have hlt:¬(((2^(cands f c b).length:Nat):Int)<((2^(cands f c b).length:Nat):Int)):=by omega
   simp only[Fl.e,Cp.e,Bt.e,jA,jB,apL,jC,jD,s_l6Victims.d6,C.I_i,C.L_l,jW,jX,decide_true,jR,jY,p1,hlt,decide_false,jS]
   rfl) (2^(cands f c b).length) 0 (by omega)
 simp only[vic,Option.isSome_none,Option.getD_none,List.map_nil,Int.natCast_zero,Fl.e,Cp.e,Bt.e,jA,jB] at h h0
 simp only[show nils=([]:List (List C)) from rfl] at h0
 simp only[s_l6Victims,s_l6Victims.d9,Fl.e,Cp.e,Bt.e,jA,jB,apL,jC,jD,show nils=([]:List (List C)) from rfl,h0,bindBlk_self,s_l6Victims.d8,C.L_l,h,s_l6Victims.d7,C.B_b,jV]
end
end Go.Ev
namespace Go.Ev
def stH (f:Fl) (st:Option (List Str)):List Int:=match st with|some best=>harmS f best|none=>[]
theorem sub_ranks {f:Fl} (hu:UniqF f.cps) (c:Cp) (b:Bt) (set:Nat):(sortI ((subN (cands f c b) set (cands f c b).length).map Cp.rank)).reverse=harmS f (subL f c b set):=by
 rw[harm_eq,harmS,subL,ranks_sub hu (l:=subN (cands f c b) set (cands f c b).length) fun d hd=>(List.mem_filter.1 (show d∈f.cps.filter (candP c b) from subN_mem hd)).1]
section
variable {f:Fl} (hz:f.Sz 1048576) {c:Cp} (hc:c.Sz 1048576) {b:Bt} (hb:b.Sz 1048576) (hbo:berthOk b=true) (hv:validF f=true) (hr:0≤c.room∧c.room≤1000) (hh:0≤c.hold∧c.hold≤1000) (ha:0≤c.apart∧c.apart≤2)
include hz hc hb hbo hv hr hh ha
theorem i_cand_loop:lim (ap26 i_pVictims.d2) ([.l (f.cps.map Cp.e),.i (f.cps.length:Nat),.i 0]++f.e++c.e++b.e++[.l nils])=some (.brk 0 (f.e++c.e++b.e++[.l ((cands f c b).map Cp.e)])):=by
 have hlc:f.cps.length<big:=by have:=hz.2.2.1;simp only[big];omega
 have h:=run_loop (body:=ap26 i_pVictims.d2) (S:=fun i=>[C.l (f.cps.map Cp.e),C.i (f.cps.length:Nat),C.i (i:Nat)]++f.e++c.e++b.e++[C.l (((f.cps.take i).filter (candP c b)).map Cp.e)]) (n:=f.cps.length) (b:=0) (ys:=f.e++c.e++b.e++[.l (((f.cps.take f.cps.length).filter (candP c b)).map Cp.e)])
  (fun i hi=>by
   have hn:((f.cps.take i).filter (candP c b)).length+1≤4294967296:=by have:=filter_len (candP c b) f i;have:=hz.2.2.1;omega
   have q0:(((f.cps[i].e.getD 11 C.nil).S).toList==b.name.toList)=sEq f.cps[i].at_ b.name:=rfl
   have q1:((f.cps[i].e.getD 2 C.nil).I)=f.cps[i].rank:=rfl
   have hf:f.e=[.b f.pack,.l (f.bts.map Bt.e),.l (f.svs.map Sv.e),.l (f.cps.map Cp.e)]:=rfl
   have hce:c.e=[.s c.name,.s c.svc,.i c.rank,.i c.born,.i c.room,.i c.hold,.s c.sel,.l (c.likes.map Lk.e),.i c.apart,.s c.near,.s c.fixed,.s c.at_]:=rfl
   have hbe:b.e=[.s b.name,.s b.zone,.l (b.marks.map sE),.i b.room,.i b.hold,.b b.shut]:=rfl
   simp only[hf,hce,hbe,jA,jB,apL,jC,jD,i_pVictims.d2,C.I_i,C.L_l,C.S_s,jW,ltL hi,decide_true,jR,jX,jY,getD_map' Cp.e hi,cp_row,q0,q1]
   rw[cands_succ f c b hi]
   simp only[candP]
   cases sEq f.cps[i].at_ b.name with
   |false=>simp[i_pVictims.d1,w1 hi hlc]
   |true=>
    cases hd:decide (f.cps[i].rank<c.rank) with
    |false=>simp[i_pVictims.d1,w1 hi hlc]
    |true=>
     simp only[jR,Bool.and_self,rows,List.length_cons,List.length_nil,Nat.zero_add,hn,decide_true,jJ,apL,jC,jD,i_pVictims.d1,C.I_i,C.L_l,w1 hi hlc,List.map_append,List.map_cons,List.map_nil])
  (by simp[i_pVictims.d2,Fl.e,Cp.e,Bt.e]) f.cps.length 0 rfl
 simp only[Int.natCast_zero,List.take_zero,List.filter_nil,List.map_nil,List.take_length] at h
 exact h
theorem i_bit_loop (fo:C) (N set:Nat) (hs:set<9223372036854775808) (cs:List Cp) (hcs:cs.length≤60) (best harm:List (List C)):lim (ap33 i_pVictims.d3) ([fo,.i set,.i N,.i set,.i (cs.length:Nat),.i 0]++f.e++c.e++b.e++[.l (cs.map Cp.e),.l best,.l harm,.l nils,.l nils])=
  some (.brk 4 ([fo,.i N,.i set]++f.e++c.e++b.e++[.l (cs.map Cp.e),.l best,.l harm,.l (((subN cs set cs.length).map Cp.name).map sE),.l (((subN cs set cs.length).map Cp.rank).map iE)])):=by
 have hlc:cs.length<big:=by simp only[big];omega
 have h:=run_loop (body:=ap33 i_pVictims.d3) (S:=fun i=>[fo,C.i set,C.i N,C.i set,C.i (cs.length:Nat),C.i (i:Nat)]++f.e++c.e++b.e++[.l (cs.map Cp.e),.l best,.l harm,C.l (((subN cs set i).map Cp.name).map sE),C.l (((subN cs set i).map Cp.rank).map iE)]) (n:=cs.length) (b:=4) (ys:=[fo,C.i N,C.i set]++f.e++c.e++b.e++[.l (cs.map Cp.e),.l best,.l harm,C.l (((subN cs set cs.length).map Cp.name).map sE),C.l (((subN cs set cs.length).map Cp.rank).map iE)])
  (fun i hi=>by
   have hn:(subN cs set i).length+1≤4294967296:=by have:=subN_len cs set i;omega
   have hmin:min i 64=i:=by omega
   have hs1:[cs[i].e.getD 0 C.nil]=sE cs[i].name:=rfl
   have hs2:[cs[i].e.getD 2 C.nil]=iE cs[i].rank:=rfl
   have hf:f.e=[.b f.pack,.l (f.bts.map Bt.e),.l (f.svs.map Sv.e),.l (f.cps.map Cp.e)]:=rfl
   have hce:c.e=[.s c.name,.s c.svc,.i c.rank,.i c.born,.i c.room,.i c.hold,.s c.sel,.l (c.likes.map Lk.e),.i c.apart,.s c.near,.s c.fixed,.s c.at_]:=rfl
   have hbe:b.e=[.s b.name,.s b.zone,.l (b.marks.map sE),.i b.room,.i b.hold,.b b.shut]:=rfl
   simp only[hf,hce,hbe,jA,jB,apL,jC,jD,i_pVictims.d3,C.I_i,C.L_l,C.S_s,jW,ltL hi,decide_true,jR,jX,jY,hmin,bit_and set i hs,getD_map' Cp.e hi,hs1,hs2,rows,List.length_cons,List.length_nil,Nat.zero_add,hn,w1 hi hlc,subN_succ set hi]
   cases bitAt set i<;>simp)
  (by simp[i_pVictims.d3,Fl.e,Cp.e,Bt.e]) cs.length 0 rfl
 exact h
theorem i_try {st:Option (List Str)} (hst:Known f (st.getD [])) {l:List Str} (hl:Known f l) (N set:C) (cs:List (List C)):
  ap30 i_pVictims.d4 ([.b st.isSome,N,set]++f.e++c.e++b.e++[.l cs,.l ((st.getD []).map sE),.l ((stH f st).map iE),.l (l.map sE),.l ((harmS f l).map iE)])=
  some (.brk 3 ([.b (bif mayB f c b l then some l else st).isSome,N,set]++f.e++c.e++b.e++[.l cs,.l (((bif mayB f c b l then some l else st).getD []).map sE),.l ((stH f (bif mayB f c b l then some l else st)).map iE)])):=by
 have hm:=i_pMayGo_eq hz (hl.sz hz) hv
 have hw:=i_pGo_eq hz l (hl.sz hz).1
 have F1:=i_pFits_eq (goF_sz hz l) hc hb hbo (goF_vb (vb_of hv) l) hr hh ha true
 have fe:(((fitsN (goF f l) c b false:Nat):Int) !=0)=!(fitsN (goF f l) c b false==0):=by rw[Bool.eq_iff_iff,bne_iff_ne,Bool.not_eq_true',beq_eq_false_iff_ne];omega
 simp only[Fl.e,Cp.e,Bt.e,jA,jB,jZ] at hm hw F1
 simp only[Fl.e,Cp.e,Bt.e,jA,jB,apL,jC,jD,i_pVictims.d4,C.L_l,hm,call1,jI,C.B_b,mayB]
 cases mayGo f l with
 |false=>simp
 |true=>
  simp only[jR,jZ,ja,hw,call4,jI,jC,jD,C.L_l,F1,C.I_i,fe,Bool.true_and]
  cases fitsN (goF f l) c b false==0<;>simp[stH]
theorem i_step {st:Option (List Str)} (hst:Known f (st.getD [])) {l:List Str} (hl:Known f l) {rk:List Int} (hrk:rk.length≤60) (hrs:(sortI rk).reverse=harmS f l) (N set:C) (cs:List (List C)):
  ap30 i_pVictims.d5 ([.b st.isSome,N,set]++f.e++c.e++b.e++[.l cs,.l ((st.getD []).map sE),.l ((stH f st).map iE),.l (l.map sE),.l (rk.map iE)])=
  some (.brk 3 ([.b (stepV f c b st l).isSome,N,set]++f.e++c.e++b.e++[.l cs,.l (((stepV f c b st l).getD []).map sE),.l ((stH f (stepV f c b st l)).map iE)])):=by
 have ht:=i_try hz hc hb hbo hv hr hh ha hst hl N set cs
 have e1:=sortIF_eq rk (by omega)
 have e2:=slices_Reverse_int_eq (sortI rk) (by rw[sortI,List.length_mergeSort];omega)
 rw[hrs] at e2
 simp only[Fl.e,Cp.e,Bt.e,jA,jB,apL,jC,jD] at ht
 simp only[Fl.e,Cp.e,Bt.e,jA,jB,apL,jC,jD,i_pVictims.d5,C.B_b,C.L_l,e1,e2,call1,jI]
 cases st with
 |none=>
  simp only[Option.isSome_none] at ht
  simp only[Option.isSome_none,jS,jJ,apL,jC,jD,ht,stepV]
 |some best=>
  have hst:Known f best:=hst
  have hn60:=(vb_of hv).n60
  have b1:=harmS_len hl
  have b2:=harmS_len hst
  have b3:=hl.len
  have b4:=hst.len
  have l1:=slices_Compare_int_eq (harmS f l) (harmS f best) (by omega) (by omega)
  have l3:=slices_Compare_string_eq l best (by omega) (by omega)
  simp only[Option.isSome_some,Option.getD_some,stH] at ht
  simp only[Option.isSome_some,Option.getD_some,stH,jR,l1,l3,call1,jI,jC,C.I_i,stepV,worse,gt_iff_lt,ge_iff_le]
  cases decide (0<lexC ltI (harmS f l) (harmS f best)) with
  |true=>simp
  |false=>
   simp only[ja,jR,Bool.false_or]
   cases lexC ltI (harmS f l) (harmS f best)==0 with
   |false=>simp only[jS,Bool.false_and,jJ,apL,jC,jD,ht]
   |true=>
    simp only[jR,Bool.true_and]
    cases decide (0≤lexC sLt l best) with
    |false=>simp only[jS,jJ,apL,jC,jD,ht]
    |true=>simp
theorem i_pVictims_eq:i_pVictims (f.e++c.e++b.e)=some [.b (vicAll f c b).isSome,.l (((vicAll f c b).getD []).map sE),.l ((stH f (vicAll f c b)).map iE)]:=by
 have hcl:=cands_len (vb_of hv) c b
 have hu:=uniq_of hv
 obtain ⟨p1,p2⟩:=shl_one hcl
 have h0:=i_cand_loop hz hc hb hbo hv hr hh ha
 have h:=run_loop (body:=ap28 i_pVictims.d7) (S:=fun k=>[C.b (vic f c b k).isSome,C.i ((2^(cands f c b).length:Nat):Int),C.i (k:Nat)]++f.e++c.e++b.e++[C.l ((cands f c b).map Cp.e),C.l (((vic f c b k).getD []).map sE),C.l ((stH f (vic f c b k)).map iE)]) (n:=2^(cands f c b).length) (b:=2) (ys:=[C.b (vicAll f c b).isSome,C.l (((vicAll f c b).getD []).map sE),C.l ((stH f (vicAll f c b)).map iE)])
  (fun k hk=>by
   have hb1:=i_bit_loop hz hc hb hbo hv hr hh ha (.b (vic f c b k).isSome) (2^(cands f c b).length) k (by omega) (cands f c b) hcl (((vic f c b k).getD []).map sE) ((stH f (vic f c b k)).map iE)
   have hs1:=i_step hz hc hb hbo hv hr hh ha (vic_known f c b k) (known_sub f c b k) (rk:=(subN (cands f c b) k (cands f c b).length).map Cp.rank) (by rw[jW];have:=subN_len (cands f c b) k (cands f c b).length;omega) (sub_ranks hu c b k) (.i ((2^(cands f c b).length:Nat):Int)) (.i (k:Nat)) ((cands f c b).map Cp.e)
   have hlt:((k:Int)<((2^(cands f c b).length:Nat):Int)):=by omega
   have hw:w64 ((k:Int)+1)=((k+1:Nat):Int):=by rw[w64_of (by omega) (by omega)];omega
   rw[show ((subN (cands f c b) k (cands f c b).length).map Cp.name)=subL f c b k from rfl] at hb1
   simp only[Fl.e,jA,jB,show c.e=[.s c.name,.s c.svc,.i c.rank,.i c.born,.i c.room,.i c.hold,.s c.sel,.l (c.likes.map Lk.e),.i c.apart,.s c.near,.s c.fixed,.s c.at_] from rfl,show b.e=[.s b.name,.s b.zone,.l (b.marks.map sE),.i b.room,.i b.hold,.b b.shut] from rfl] at hb1 hs1
   simp only[Fl.e,jA,jB,show c.e=[.s c.name,.s c.svc,.i c.rank,.i c.born,.i c.room,.i c.hold,.s c.sel,.l (c.likes.map Lk.e),.i c.apart,.s c.near,.s c.fixed,.s c.at_] from rfl,show b.e=[.s b.name,.s b.zone,.l (b.marks.map sE),.i b.room,.i b.hold,.b b.shut] from rfl,apL,jC,jD,i_pVictims.d7,C.I_i,C.L_l,jW,decide_true,jR,hlt,show nils=([]:List (List C)) from rfl] at hb1⊢
   rw[hb1]
   simp only[bindBlk_self,hs1,apL,jC,jD,i_pVictims.d6,C.I_i,C.L_l,hw]
   rfl)
  (by
   have hlt:¬(((2^(cands f c b).length:Nat):Int)<((2^(cands f c b).length:Nat):Int)):=by omega
   simp only[Fl.e,Cp.e,Bt.e,jA,jB,apL,jC,jD,i_pVictims.d7,C.I_i,C.L_l,hlt,decide_false,jS]
   rfl) (2^(cands f c b).length) 0 (by omega)
 simp only[vic,stH,Option.isSome_none,Option.getD_none,List.map_nil,Int.natCast_zero,Fl.e,jA,jB,show c.e=[.s c.name,.s c.svc,.i c.rank,.i c.born,.i c.room,.i c.hold,.s c.sel,.l (c.likes.map Lk.e),.i c.apart,.s c.near,.s c.fixed,.s c.at_] from rfl,show b.e=[.s b.name,.s b.zone,.l (b.marks.map sE),.i b.room,.i b.hold,.b b.shut] from rfl] at h h0
 simp only[show nils=([]:List (List C)) from rfl] at h0
 simp only[i_pVictims,i_pVictims.d10,Fl.e,jA,jB,show c.e=[.s c.name,.s c.svc,.i c.rank,.i c.born,.i c.room,.i c.hold,.s c.sel,.l (c.likes.map Lk.e),.i c.apart,.s c.near,.s c.fixed,.s c.at_] from rfl,show b.e=[.s b.name,.s b.zone,.l (b.marks.map sE),.i b.room,.i b.hold,.b b.shut] from rfl,apL,jC,jD,C.L_l,jW,show nils=([]:List (List C)) from rfl,h0,bindBlk_self,i_pVictims.d9,jX,decide_true,jR,jY,p1,h,i_pVictims.d8,C.B_b,jV]
 rfl
end
end Go.Ev
namespace Go.Ev
section
variable {f:Fl} (hz:f.Sz 1048576) (cn bn:Str)
include hz
end
end Go.Ev
namespace Go.Ev
theorem bnames_up {f:Fl} (h:validF f=true) (d i:Nat) (hj:i+d+1<f.bts.length):sLt (f.bts[i]'(by omega)).name f.bts[i+d+1].name=true:=by
 refine adj_lt (lt:=fun a b:Bt=>sLt a.name b.name) (fun a b c=>sLt_trans) (fun i hi=>?_) d i hj
 simp only[validF,Bool.and_eq_true] at h
 have:=(allFrom_iff _ _ _).1 h.2.2.2.2.2.1 (i+1) (Nat.zero_le _) (by omega)
 have hi':i<f.bts.length:=by omega
 have e:(i+1==0)=false:=rfl
 simp only[btA,List.getElem?_eq_getElem hi,Nat.add_sub_cancel,List.getElem?_eq_getElem hi',e,Bool.false_or,Bool.and_eq_true] at this
 exact this.2
theorem bIx_name {f:Fl} (h:validF f=true) {b:Bt} (hb:b∈f.bts):∃k,∃hk:k<f.bts.length,bIx f b.name=(k:Nat)∧f.bts[k]=b:=by
 have key:∀(i k:Nat) (hi:i<f.bts.length) (hk:k<f.bts.length),i<k→sEq f.bts[i].name f.bts[k].name=true→False:=by
  intro i k hi hk hlt he
  obtain ⟨d,rfl⟩:∃d,k=i+d+1:=⟨k-i-1,by omega⟩
  have:=bnames_up h d i hk
  rw[(sEq_iff _ _).1 he,sLt_irr] at this
  exact absurd this (by decide)
 rcases bIx_at f b.name with h1|⟨k,hk,h1,e⟩
 ·have:=findIx_neg _ _ _ h1
  have h2:f.bts.any (fun x:Bt=>sEq x.name b.name)=true:=List.any_eq_true.2 ⟨b,hb,(sEq_iff _ _).2 rfl⟩
  rw[this] at h2;cases h2
 ·obtain ⟨j,hj,rfl⟩:=List.getElem_of_mem hb
  refine ⟨k,hk,h1,?_⟩
  rcases Nat.lt_trichotomy k j with q|q|q
  ·exact (key k j hk hj q e).elim
  ·subst q;rfl
  ·exact (key j k hj hk q (by rw[sEq_comm];exact e)).elim
abbrev FSt:=Option (Bt×List Str)
def overB (f:Fl) (c:Cp) (b:Bt) (l:List Str) (b0:Bt) (l0:List Str):Bool:=
 decide (0<lexC ltI (harmS f l) (harmS f l0))||(lexC ltI (harmS f l) (harmS f l0)==0&&!better f.pack (scoreN (goF f l) c b) (scoreN (goF f l0) c b0))
def forceSt (f:Fl) (c:Cp) (st:FSt) (b:Bt):FSt:=match vicAll f c b with
 |none=>st
 |some l=>match st with
  |none=>some (b,l)
  |some (b0,l0)=>bif overB f c b l b0 l0 then st else some (b,l)
def force (f:Fl) (c:Cp):Nat→FSt
 |0=>none
 |i+1=>match f.bts[i]? with|some b=>forceSt f c (force f c i) b|none=>force f c i
def FInv (f:Fl) (st:FSt):Prop:=∀b l,st=some (b,l)→b∈f.bts∧Known f l
theorem vicAll_known {f:Fl} {c:Cp} {b:Bt} {l:List Str} (h:vicAll f c b=some l):Known f l:=by
 have:=vic_known f c b (2^(cands f c b).length)
 rw[show vic f c b (2^(cands f c b).length)=some l from h] at this
 exact this
theorem forceSt_inv {f:Fl} {c:Cp} {st:FSt} (h:FInv f st) {b:Bt} (hb:b∈f.bts):FInv f (forceSt f c st b):=by
 unfold forceSt
 cases hv:vicAll f c b with
 |none=>exact h
 |some l=>
  have hl:=vicAll_known hv
  cases st with
  |none=>intro b' l' e;simp only[Option.some.injEq,Prod.mk.injEq] at e;obtain ⟨rfl,rfl⟩:=e;exact ⟨hb,hl⟩
  |some p=>
   obtain ⟨b0,l0⟩:=p
   simp only
   cases overB f c b l b0 l0 with
   |true=>exact h
   |false=>intro b' l' e;simp only[jS,Option.some.injEq,Prod.mk.injEq] at e;obtain ⟨rfl,rfl⟩:=e;exact ⟨hb,hl⟩
theorem force_inv (f:Fl) (c:Cp):∀i,FInv f (force f c i)
 |0=>fun b l h=>by cases h
 |i+1=>by
  simp only[force]
  cases h:f.bts[i]? with
  |none=>exact force_inv f c i
  |some b=>exact forceSt_inv (force_inv f c i) (List.mem_of_getElem? h)
def fC (st:FSt) (c:Cp):Str:=match st with|some _=>c.name|none=>mkS []
def fB (st:FSt):Str:=match st with|some (b,_)=>b.name|none=>mkS []
def fG (st:FSt):List Str:=match st with|some (_,l)=>l|none=>[]
def fH (f:Fl) (st:FSt):List Int:=match st with|some (_,l)=>harmS f l|none=>[]
def fS (f:Fl) (c:Cp) (st:FSt):Int×Int×Int×Int:=match st with|some (b,l)=>scoreN (goF f l) c b|none=>(0,0,0,0)
def outFo (c:Cp) (st:FSt):List C:=[.s (fC st c),.s (fB st),.b st.isSome,.l ((fG st).map sE)]
theorem ce (c:Cp):c.e=[.s c.name,.s c.svc,.i c.rank,.i c.born,.i c.room,.i c.hold,.s c.sel,.l (c.likes.map Lk.e),.i c.apart,.s c.near,.s c.fixed,.s c.at_]:=rfl
theorem be (b:Bt):b.e=[.s b.name,.s b.zone,.l (b.marks.map sE),.i b.room,.i b.hold,.b b.shut]:=rfl
theorem fe (f:Fl):f.e=[.b f.pack,.l (f.bts.map Bt.e),.l (f.svs.map Sv.e),.l (f.cps.map Cp.e)]:=rfl
theorem bt_row (b:Bt):b.e.getD 0 .nil=.s b.name∧b.e.getD 1 .nil=.s b.zone∧b.e.getD 2 .nil=.l (b.marks.map sE)∧b.e.getD 3 .nil=.i b.room∧b.e.getD 4 .nil=.i b.hold∧b.e.getD 5 .nil=.b b.shut:=⟨rfl,rfl,rfl,rfl,rfl,rfl⟩
section
variable {f:Fl} (hz:f.Sz 1048576) {c:Cp} (hc:c.Sz 1048576) (hv:validF f=true) (hr:0≤c.room∧c.room≤1000) (hh:0≤c.hold∧c.hold≤1000) (ha:0≤c.apart∧c.apart≤2)
include hz hc hv hr hh ha
theorem i_pForce_eq:i_pForce (f.e++c.e)=some (outFo c (force f c f.bts.length)):=by
 have hlc:f.bts.length<big:=by have:=hz.1.1;simp only[big];omega
 have h60:=(vb_of hv).n60
 have h:=run_loop (body:=ap31 i_pForce.d2) (S:=fun i=>[C.b (force f c i).isSome,C.l (f.bts.map Bt.e),C.i (f.bts.length:Nat),C.i (i:Nat)]++f.e++c.e++[C.s (mkS []),C.s (mkS []),C.s (fC (force f c i) c),C.s (fB (force f c i)),C.l ((fH f (force f c i)).map iE)]++sc4 (fS f c (force f c i))++[C.l [],C.l ((fG (force f c i)).map sE)]) (n:=f.bts.length) (b:=0)
  (ys:=[C.b (force f c f.bts.length).isSome,C.s (mkS []),C.s (mkS []),C.s (fC (force f c f.bts.length) c),C.s (fB (force f c f.bts.length)),C.l [],C.l ((fG (force f c f.bts.length)).map sE)])
  (fun i hi=>by
   have m:=List.getElem_mem hi
   have hbz:=hz.1.2 _ m
   have hbo:=(vb_of hv).bb _ m
   have hV:=i_pVictims_eq hz hc hbz hbo hv hr hh ha
   have hinv:=force_inv f c i
   have hst:force f c (i+1)=forceSt f c (force f c i) f.bts[i]:=by simp[force,hi]
   rw[hst]
   generalize force f c i=st at hinv⊢
   obtain ⟨r0,r1,r2,r3,r4,r5⟩:=bt_row f.bts[i]
   simp only[fe,ce,be,sc4,jA,jB] at hV
   simp only[fe,ce,sc4,jA,jB,apL,jC,jD,i_pForce.d2,C.I_i,C.L_l,C.B_b,jW,ltL hi,decide_true,jR,jX,jY,getD_map' Bt.e hi,r0,r1,r2,r3,r4,r5,hV,call3,jI]
   unfold forceSt
   cases hvic:vicAll f c f.bts[i] with
   |none=>simp[i_pForce.d1,w1 hi hlc]
   |some l=>
    have hl:=vicAll_known hvic
    have hw:=i_pGo_eq hz l (hl.sz hz).1
    have S1:i_pScore ((goF f l).e++c.e++f.bts[i].e)=some (sc4 (scoreN (goF f l) c f.bts[i])):=i_pScore_eq (goF_sz hz l) hc hbz hbo
    simp only[fe,ce,be,sc4,jA,jB] at hw S1
    simp only[Option.isSome_some,Option.getD_some,jZ,jS,stH,hw,S1,call4,jI,jC,jD,C.L_l]
    cases st with
    |none=>simp[i_pForce.d1,w1 hi hlc,fC,fB,fG,fH,fS]
    |some p=>
     obtain ⟨b0,l0⟩:=p
     obtain ⟨hb0,hl0⟩:=hinv b0 l0 rfl
     have b1:=harmS_len hl
     have b2:=harmS_len hl0
     have l1:=slices_Compare_int_eq (harmS f l) (harmS f l0) (by omega) (by omega)
     have B:=i_PilotBetter_eq (scoreN (goF f l) c f.bts[i]) (scoreN (goF f l0) c b0) f.pack
     simp only[sc4,jA,jB] at B
     simp only[Option.isSome_some,fC,fB,fG,fH,fS,jR,l1,call1,jI,jC,C.I_i,B,C.B_b,overB,gt_iff_lt]
     cases decide (0<lexC ltI (harmS f l) (harmS f l0)) with
     |true=>simp[i_pForce.d1,w1 hi hlc,fC,fB,fG,fH,fS]
     |false=>
      simp only[ja,jR,Bool.false_or]
      cases lexC ltI (harmS f l) (harmS f l0)==0 with
      |false=>simp[i_pForce.d1,w1 hi hlc,fC,fB,fG,fH,fS]
      |true=>
       simp only[jR,Bool.true_and]
       cases better f.pack (scoreN (goF f l) c f.bts[i]) (scoreN (goF f l0) c b0)<;>simp[i_pForce.d1,w1 hi hlc,fC,fB,fG,fH,fS])
  (by simp[i_pForce.d2,fe,ce,sc4]) f.bts.length 0 rfl
 simp only[force,fC,fB,fG,fH,fS,Option.isSome_none,List.map_nil,Int.natCast_zero,fe,ce,sc4,jA,jB] at h
 simp only[i_pForce,i_pForce.d4,fe,ce,jA,jB,apL,jC,jD,C.L_l,jW,show nils=([]:List (List C)) from rfl,show bs #[]=mkS [] from rfl]
 rw[h]
 simp only[bindBlk_self,apL,jC,jD,i_pForce.d3,C.B_b,C.L_l,jV,outFo]
 rfl
theorem s_l7Best_eq:s_l7Best (f.e++c.e)=some (outFo c (force f c f.bts.length)):=by
 have hlc:f.bts.length<big:=by have:=hz.1.1;simp only[big];omega
 have h60:=(vb_of hv).n60
 have hu:=uniq_of hv
 have h:=run_loop (body:=ap24 s_l7Best.d2) (S:=fun i=>[C.b (force f c i).isSome,C.i (i:Nat)]++f.e++c.e++[C.s (mkS []),C.s (mkS []),C.s (fC (force f c i) c),C.s (fB (force f c i)),C.l [],C.l ((fG (force f c i)).map sE)]) (n:=f.bts.length) (b:=0)
  (ys:=[C.b (force f c f.bts.length).isSome,C.s (mkS []),C.s (mkS []),C.s (fC (force f c f.bts.length) c),C.s (fB (force f c f.bts.length)),C.l [],C.l ((fG (force f c f.bts.length)).map sE)])
  (fun i hi=>by
   have m:=List.getElem_mem hi
   have hbz:=hz.1.2 _ m
   have hbo:=(vb_of hv).bb _ m
   have hV:=s_l6Victims_eq hz hc hbz hbo hv hr hh
   have hinv:=force_inv f c i
   have hst:force f c (i+1)=forceSt f c (force f c i) f.bts[i]:=by simp[force,hi]
   rw[hst]
   generalize force f c i=st at hinv⊢
   obtain ⟨r0,r1,r2,r3,r4,r5⟩:=bt_row f.bts[i]
   simp only[fe,ce,be,sc4,jA,jB] at hV
   simp only[fe,ce,jA,jB,apL,jC,jD,s_l7Best.d2,C.I_i,C.L_l,C.B_b,jW,ltL hi,decide_true,jR,jX,jY,getD_map' Bt.e hi,r0,r1,r2,r3,r4,r5,hV,call2,jI]
   unfold forceSt
   cases hvic:vicAll f c f.bts[i] with
   |none=>simp[s_l7Best.d1,w1 hi hlc]
   |some l=>
    have hl:=vicAll_known hvic
    simp only[Option.isSome_some,Option.getD_some,jZ,jS]
    cases st with
    |none=>simp[s_l7Best.d1,w1 hi hlc,fC,fB,fG]
    |some p=>
     obtain ⟨b0,l0⟩:=p
     obtain ⟨hb0,hl0⟩:=hinv b0 l0 rfl
     obtain ⟨j,hj,hj1,rfl⟩:=bIx_name hv hb0
     have hb:=s_l2Berth_eq f f.bts[j].name hz.1.1
     have b1:=harmS_len hl
     have b2:=harmS_len hl0
     have H1:=s_l6Harm_eq hz l (hl.sz hz) (hl.there hu)
     have H2:=s_l6Harm_eq hz l0 (hl0.sz hz) (hl0.there hu)
     rw[show insAll (ranksOf f l)=harmS f l from rfl] at H1
     rw[show insAll (ranksOf f l0)=harmS f l0 from rfl] at H2
     have l1:=s_PilotLess_eq (harmS f l0) (harmS f l) (by omega) (by omega)
     have l2:=s_PilotLess_eq (harmS f l) (harmS f l0) (by omega) (by omega)
     have W1:=s_l6Without_eq hz l (hl.sz hz).1 hu (hl.ix hu)
     have W2:=s_l6Without_eq hz l0 (hl0.sz hz).1 hu (hl0.ix hu)
     have S1:s_l4Score ((goF f l).e++c.e++f.bts[i].e)=some (sc4 (scoreN (goF f l) c f.bts[i])):=s_l4Score_eq (goF_sz hz l) hc hbz hbo
     have S2:s_l4Score ((goF f l0).e++c.e++f.bts[j].e)=some (sc4 (scoreN (goF f l0) c f.bts[j])):=s_l4Score_eq (goF_sz hz l0) hc (hz.1.2 _ hb0) ((vb_of hv).bb _ hb0)
     have B:=s_PilotBetter_eq (scoreN (goF f l) c f.bts[i]) (scoreN (goF f l0) c f.bts[j]) f.pack
     obtain ⟨s0,s1,s2,s3,s4,s5⟩:=bt_row f.bts[j]
     rw[hj1] at hb
     simp only[fe,ce,be,sc4,jA,jB] at H1 H2 W1 W2 S1 S2 B hb
     simp only[Option.isSome_some,fC,fB,fG,jR,H1,H2,l1,l2,call1,call4,jI,jC,jD,C.I_i,C.L_l,C.B_b,W1,W2,S1,S2,hb,jX,decide_true,ltL hj,jY,getD_map' Bt.e hj,s0,s1,s2,s3,s4,s5,B,overB,lexC_neg ltI_asym (harmS f l) (harmS f l0)]
     generalize lexC ltI (harmS f l) (harmS f l0)=k
     rcases Int.lt_trichotomy k 0 with q|q|q
     ·have q1:¬-k<0:=by omega
      have q2:¬0<k:=by omega
      have q3:(k==0)=false:=by rw[beq_eq_false_iff_ne];omega
      simp[q,q1,q2,q3,s_l7Best.d1,w1 hi hlc,fC,fB,fG]
     ·subst q
      cases better f.pack (scoreN (goF f l) c f.bts[i]) (scoreN (goF f l0) c f.bts[j])<;>simp[s_l7Best.d1,w1 hi hlc,fC,fB,fG]
     ·have q1:-k<0:=by omega
      simp[q,q1,s_l7Best.d1,w1 hi hlc,fC,fB,fG])
  (by simp[s_l7Best.d2,fe,ce]) f.bts.length 0 rfl
 simp only[force,fC,fB,fG,Option.isSome_none,List.map_nil,Int.natCast_zero,fe,ce,jA,jB] at h
 simp only[s_l7Best,s_l7Best.d4,fe,ce,jA,jB,apL,jC,jD,C.L_l,jW,show nils=([]:List (List C)) from rfl,show bs #[]=mkS [] from rfl]
 rw[h]
 simp only[bindBlk_self,apL,jC,jD,s_l7Best.d3,C.B_b,C.L_l,jV,outFo]
 rfl
end
end Go.Ev
namespace Go.Ev
theorem some_loop {α β:Type} {q:List β} {g:β→Option α} {out:α→List C} {body:List C→R} {S:Nat→List C} {b:Nat} {ys:List C}
  (hs:∀i (h:i<q.length),body (S i)=match g q[i] with|some x=>some (.ret (out x))|none=>some (.again (S (i+1)))) (he:body (S q.length)=some (.brk b ys)):
  ∀k i,k+i=q.length→lim body (S i)=match (q.drop i).findSome? g with|some x=>some (.ret (out x))|none=>some (.brk b ys)
 |0,i,h=>by
  have:i=q.length:=by omega
  subst this
  rw[lim_brk he,List.drop_length];rfl
 |k+1,i,h=>by
  have hi:i<q.length:=by omega
  have hb:=hs i hi
  rw[List.drop_eq_getElem_cons hi,List.findSome?_cons]
  cases hg:g q[i] with
  |some x=>rw[hg] at hb;rw[lim_ret hb]
  |none=>rw[hg] at hb;rw[lim_again hb,some_loop hs he k (i+1) (by omega)]
abbrev Stp:=Str×Str×List Str
def fitQ (f:Fl) (c:Cp):Option Stp:=bif sEq (chooseB f c) (mkS []) then none else some (c.name,chooseB f c,[])
def forQ (f:Fl) (c:Cp):Option Stp:=match force f c f.bts.length with|some (b,l)=>some (c.name,b.name,l)|none=>none
def nextOf (f:Fl):Option Stp:=match (queue f).findSome? (fitQ f) with|some x=>some x|none=>(queue f).findSome? (forQ f)
def outN (r:Option Stp):List C:=match r with|some (a,b,l)=>[.s a,.s b,.b true,.l (l.map sE)]|none=>[.s (mkS []),.s (mkS []),.b false,.l []]
def outS (x:Stp):List C:=[.s x.1,.s x.2.1,.b true,.l (x.2.2.map sE)]
section
variable {f:Fl} (hz:f.Sz 1048576) (hv:validF f=true)
include hz hv
theorem i_pNext_eq:i_pNext f.e=some (outN (nextOf f)):=by
 have hq:=i_pQueue_eq hz (vb_of hv) (uniq_of hv)
 have hql:(queue f).length≤60:=by
  rw[(queue_perm f).length_eq]
  exact Nat.le_trans (List.length_filter_le _ _) (vb_of hv).n60
 have hqm:∀x,x∈queue f→x∈f.cps:=fun x hx=>(queue_mem hx).1
 unfold nextOf
 generalize queue f=q at hq hql hqm⊢
 have hlb:q.length<big:=by simp only[big];omega
 have h1:=some_loop (q:=q) (g:=fitQ f) (out:=outS) (body:=ap10 i_pNext.d1) (S:=fun i=>[C.i (q.length:Nat),C.i (i:Nat)]++f.e++[C.s (mkS []),C.s (mkS []),C.l (q.map Cp.e),C.l []]) (b:=0) (ys:=f.e++[C.s (mkS []),C.s (mkS []),C.l (q.map Cp.e),C.l []])
  (fun i hi=>by
   have m:=hqm _ (List.getElem_mem hi)
   have hC:=i_pChoose_eq hz (hz.2.2.2 _ m) (vb_of hv) (cp_room (vb_of hv) _ m) (cp_hold (vb_of hv) _ m) (cp_apart (vb_of hv) _ m)
   have q0:((chooseB f q[i]).toList==(bs #[]).toList)=sEq (chooseB f q[i]) (mkS []):=rfl
   simp only[fe,ce,jA,jB] at hC
   simp only[fe,jA,jB,apL,jC,jD,i_pNext.d1,C.I_i,C.L_l,jW,ltL hi,decide_true,jR,jX,jY,getD_map' Cp.e hi,w1 hi hlb]
   simp only[ce,jC,jD,hC,call1,jI,C.S_s,q0,fitQ,outS]
   cases sEq (chooseB f q[i]) (mkS [])<;>simp)
  (by simp[i_pNext.d1,fe]) q.length 0 rfl
 have h2:=some_loop (q:=q) (g:=forQ f) (out:=outS) (body:=ap10 i_pNext.d2) (S:=fun i=>[C.i (q.length:Nat),C.i (i:Nat)]++f.e++[C.s (mkS []),C.s (mkS []),C.l (q.map Cp.e),C.l []]) (b:=2) (ys:=[C.s (mkS []),C.s (mkS []),C.l []])
  (fun i hi=>by
   have m:=hqm _ (List.getElem_mem hi)
   have hC:=i_pForce_eq hz (hz.2.2.2 _ m) hv (cp_room (vb_of hv) _ m) (cp_hold (vb_of hv) _ m) (cp_apart (vb_of hv) _ m)
   simp only[fe,ce,jA,jB] at hC
   simp only[fe,jA,jB,apL,jC,jD,i_pNext.d2,C.I_i,C.L_l,jW,ltL hi,decide_true,jR,jX,jY,getD_map' Cp.e hi,w1 hi hlb]
   simp only[ce,jC,jD,hC,outFo,call4,jI,C.B_b,C.L_l,forQ,outS]
   cases force f q[i] f.bts.length with
   |none=>simp
   |some p=>obtain ⟨b,l⟩:=p;simp[fC,fB,fG])
  (by simp[i_pNext.d2,fe]) q.length 0 rfl
 simp only[fe] at hq
 simp only[fe,jA,jB,Int.natCast_zero,List.drop_zero] at h1 h2
 simp only[i_pNext,i_pNext.d5,fe,apL,jC,jD,hq,call1,jI,C.L_l,jW,show nils=([]:List (List C)) from rfl,show bs #[]=mkS [] from rfl,h1]
 cases q.findSome? (fitQ f) with
 |some x=>simp[outN,outS]
 |none=>
  simp only[bindBlk_self,apL,jC,jD,i_pNext.d4,C.L_l,jW,h2]
  cases q.findSome? (forQ f) with
  |some x=>simp[outN,outS]
  |none=>simp[i_pNext.d3,outN,show bs #[]=mkS [] from rfl]
theorem s_l5First_eq:s_l5First f.e=some (outN ((queue f).findSome? (fitQ f))):=by
 have hq:=s_l5Queue_eq hz (vb_of hv)
 have hql:(queue f).length≤60:=by
  rw[(queue_perm f).length_eq]
  exact Nat.le_trans (List.length_filter_le _ _) (vb_of hv).n60
 have hqm:∀x,x∈queue f→x∈f.cps:=fun x hx=>(queue_mem hx).1
 generalize queue f=q at hq hql hqm⊢
 have hlb:q.length<big:=by simp only[big];omega
 have h1:=some_loop (q:=q) (g:=fitQ f) (out:=outS) (body:=ap9 s_l5First.d1) (S:=fun i=>[C.i (i:Nat)]++f.e++[C.s (mkS []),C.s (mkS []),C.l ((q.map Cp.name).map sE),C.l []]) (b:=0) (ys:=[C.s (mkS []),C.s (mkS []),C.l []])
  (fun i hi=>by
   have m:=hqm _ (List.getElem_mem hi)
   have hi':i<(q.map Cp.name).length:=by simpa using hi
   have hgn:((q.map Cp.name).map sE).getD i []=sE q[i].name:=by rw[getD_map' sE hi'];simp
   obtain ⟨k,hk,k1,k2⟩:=cIx_name (uniq_of hv) m
   have hcix:=s_l2Copy_eq f q[i].name hz.2.2.1
   rw[k1] at hcix
   have hC:=s_l4Choose_eq hz (hz.2.2.2 _ m) (vb_of hv) (cp_room (vb_of hv) _ m) (cp_hold (vb_of hv) _ m) (cp_apart (vb_of hv) _ m)
   have q0:((chooseB f q[i]).toList==(bs #[]).toList)=sEq (chooseB f q[i]) (mkS []):=rfl
   simp only[fe,ce,jA,jB] at hC hcix
   simp only[fe,jA,jB,apL,jC,jD,s_l5First.d1,C.I_i,C.L_l,jW,ltL hi,decide_true,jR,jX,jY,hgn,w1 hi hlb]
   simp only[sE,jC,hcix,call1,jI,C.I_i,jX,decide_true,jR,ltL hk,jY,getD_map' Cp.e hk,k2]
   simp only[ce,jC,jD,hC,jI,C.S_s,q0,fitQ,outS]
   cases sEq (chooseB f q[i]) (mkS [])<;>simp[sE])
  (by simp[s_l5First.d1,fe]) q.length 0 rfl
 simp only[fe] at hq
 simp only[fe,jA,jB,Int.natCast_zero,List.drop_zero] at h1
 simp only[s_l5First,s_l5First.d3,fe,apL,jC,jD,hq,call1,jI,C.L_l,show nils=([]:List (List C)) from rfl,show bs #[]=mkS [] from rfl,h1]
 cases q.findSome? (fitQ f) with
 |some x=>simp[outN,outS]
 |none=>simp[s_l5First.d2,outN,show bs #[]=mkS [] from rfl]
theorem s_l7Next_eq:s_l7Next f.e=some (outN (nextOf f)):=by
 have hF:=s_l5First_eq hz hv
 have hq:=s_l5Queue_eq hz (vb_of hv)
 have hql:(queue f).length≤60:=by
  rw[(queue_perm f).length_eq]
  exact Nat.le_trans (List.length_filter_le _ _) (vb_of hv).n60
 have hqm:∀x,x∈queue f→x∈f.cps:=fun x hx=>(queue_mem hx).1
 unfold nextOf
 generalize queue f=q at hq hql hqm hF⊢
 have hlb:q.length<big:=by simp only[big];omega
 have h1:=some_loop (q:=q) (g:=forQ f) (out:=outS) (body:=ap12 s_l7Next.d1) (S:=fun i=>[C.i (i:Nat)]++f.e++[C.s (mkS []),C.s (mkS []),C.s (mkS []),C.s (mkS []),C.l ((q.map Cp.name).map sE),C.l [],C.l []]) (b:=0) (ys:=[C.s (mkS []),C.s (mkS []),C.l []])
  (fun i hi=>by
   have m:=hqm _ (List.getElem_mem hi)
   have hi':i<(q.map Cp.name).length:=by simpa using hi
   have hgn:((q.map Cp.name).map sE).getD i []=sE q[i].name:=by rw[getD_map' sE hi'];simp
   obtain ⟨k,hk,k1,k2⟩:=cIx_name (uniq_of hv) m
   have hcix:=s_l2Copy_eq f q[i].name hz.2.2.1
   rw[k1] at hcix
   have hC:=s_l7Best_eq hz (hz.2.2.2 _ m) hv (cp_room (vb_of hv) _ m) (cp_hold (vb_of hv) _ m) (cp_apart (vb_of hv) _ m)
   simp only[fe,ce,jA,jB] at hC hcix
   simp only[fe,jA,jB,apL,jC,jD,s_l7Next.d1,C.I_i,C.L_l,jW,ltL hi,decide_true,jR,jX,jY,hgn,w1 hi hlb]
   simp only[sE,jC,hcix,call1,jI,C.I_i,jX,decide_true,jR,ltL hk,jY,getD_map' Cp.e hk,k2]
   simp only[ce,jC,jD,hC,outFo,call4,jI,C.B_b,C.L_l,forQ,outS]
   cases force f q[i] f.bts.length with
   |none=>simp[fC,fB,fG,sE]
   |some p=>obtain ⟨b,l⟩:=p;simp[fC,fB,fG,sE])
  (by simp[s_l7Next.d1,fe]) q.length 0 rfl
 simp only[fe] at hq hF
 simp only[fe,jA,jB,Int.natCast_zero,List.drop_zero] at h1
 simp only[s_l7Next,s_l7Next.d3,fe,apL,jC,jD,hF]
 cases q.findSome? (fitQ f) with
 |some x=>simp[outN,call4]
 |none=>
  simp only[outN,call4,jI,jC,jD,C.B_b,jS,hq,call1,C.L_l,show nils=([]:List (List C)) from rfl,show bs #[]=mkS [] from rfl,h1]
  cases q.findSome? (forQ f) with
  |some x=>simp[outN,outS]
  |none=>simp[s_l7Next.d2,outN,show bs #[]=mkS [] from rfl]
end
def nextV (f:Fl):Option Stp:=bif validF f then nextOf f else none
theorem nextV_known {f:Fl} (hz:f.Sz 1048576) {x:Stp} (h:nextV f=some x):Known f x.2.2:=by
 unfold nextV at h
 cases hv:validF f with
 |false=>rw[hv] at h;cases h
 |true=>
  rw[hv,jR] at h
  unfold nextOf at h
  cases h1:(queue f).findSome? (fitQ f) with
  |some y=>
   rw[h1] at h
   obtain rfl:=Option.some.inj h
   obtain ⟨c,_,hc⟩:=List.exists_of_findSome?_eq_some h1
   unfold fitQ at hc
   cases hq:sEq (chooseB f c) (mkS []) with
   |true=>rw[hq] at hc;cases hc
   |false=>rw[hq] at hc;obtain rfl:=Option.some.inj hc;exact known_nil f
  |none=>
   rw[h1] at h
   obtain ⟨c,_,hc⟩:=List.exists_of_findSome?_eq_some h
   unfold forQ at hc
   cases hf:force f c f.bts.length with
   |none=>rw[hf] at hc;cases hc
   |some p=>
    obtain ⟨b,l⟩:=p
    rw[hf] at hc
    obtain rfl:=Option.some.inj hc
    exact (force_inv f c _ b l hf).2
def nxA (r:Option Stp):Str:=match r with|some x=>x.1|none=>mkS []
def nxB (r:Option Stp):Str:=match r with|some x=>x.2.1|none=>mkS []
def nxG (r:Option Stp):List Str:=match r with|some x=>x.2.2|none=>[]
theorem outN_eq (r:Option Stp):outN r=[.s (nxA r),.s (nxB r),.b r.isSome,.l ((nxG r).map sE)]:=by cases r<;>rfl
theorem FnExactPilotNext_true (f:Fl) (hz:f.Sz maxLen):w_FnExactPilotNext f.e=some [.b true]:=by
 have h1:=w_szPilotFleet_eq f 1048576 (by omega) (by omega) hz
 simp only[fe,jA,jB] at h1
 simp only[w_FnExactPilotNext,w_FnExactPilotNext.d1,fe,jA,jB,apL,jC,jD,C.S_s]
 rcases h1 with h|⟨n,n0,n1,hz',h⟩
 ·simp[h,call1]
 have hn:¬n<0:=by omega
 have t1:=w_toPilotFleet_eq f hz'
 have t3:=w_eqPilotFleet_eq f hz'
 have h3:=s_PilotValid_eq hz'
 have h4:=i_PilotValid_eq hz'
 have s1:s_PilotNext f.e=some (outN (nextV f)):=by
  simp only[fe] at h3
  simp only[s_PilotNext,s_PilotNext.d1,fe,apL,jC,jD,h3,call1,jI,C.B_b,nextV]
  cases hv:validF f with
  |false=>rfl
  |true=>
   have:=s_l7Next_eq hz' hv
   simp only[fe] at this
   simp only[jZ,jS,jR,this,outN_eq,call4,jI,jC,jD,C.B_b,C.L_l,jV]
 have s2:i_PilotNext f.e=some (outN (nextV f)):=by
  simp only[fe] at h4
  simp only[i_PilotNext,i_PilotNext.d1,fe,apL,jC,jD,h4,call1,jI,C.B_b,nextV]
  cases hv:validF f with
  |false=>rfl
  |true=>
   have:=i_pNext_eq hz' hv
   simp only[fe] at this
   simp only[jZ,jS,jR,this,outN_eq,call4,jI,jC,jD,C.B_b,C.L_l,jV]
 have mk:=w_markPilotFleet_eq hz' (k:=1) (by omega) (by omega)
 obtain ⟨u1,u2,u3⟩:=mkFl_up hz' (k:=1) (by omega)
 have hm:¬(mkFl f 1).2<0:=by omega
 have hl:(nxG (nextV f)).length≤1048576:=by
  cases hx:nextV f with
  |none=>simp[nxG]
  |some x=>exact Nat.le_trans (nextV_known hz' hx).len hz'.2.2.1
 rw[outN_eq] at s1 s2
 generalize nxA (nextV f)=ra at s1 s2
 generalize nxB (nextV f)=rb at s1 s2
 generalize (nextV f).isSome=ro at s1 s2
 generalize nxG (nextV f)=r at s1 s2 hl
 have e1:=w_eqStringS_eq r ⟨hl,fun _ _=>trivial⟩
 have m1:=w_markStringS_eq r 1 hl (by omega) (by omega)
 have m2:=w_heldStringS_eq r 1 hl (by omega) (by omega)
 have m3:=mkStr_up r 1
 have hm3:¬(mkAll mkStr r 1).2<0:=by omega
 have hs:∀a:Str,(a.toList==a.toList)=true:=fun a=>(sEq_iff a a).2 rfl
 simp only[fe,jA,jB] at t1 t3 s1 s2
 simp only[w_eqPilotStep,w_eqPilotStep.d1,w_markPilotStep,w_markPilotStep.d1,w_heldPilotStep,w_heldPilotStep.d1,apL,hs,h,t1,t3,s1,s2,mk,e1,m1,m2,call1,call2,call4,jI,jC,jD,C.I_i,C.L_l,C.B_b,C.S_s,hn,hm,hm3,decide_false,jS,jZ,ja,jR,bne_self_eq_false,beq_self_eq_true,jV]
end Go.Ev
namespace Go.Ev
theorem dec_list {α:Type} (e:α→List C) (P:α→Prop):∀(es:List (List C)),(∀r,r∈es→∃x,r=e x∧P x)→∃l:List α,es=l.map e∧∀x,x∈l→P x
 |[],_=>⟨[],rfl,fun x h=>by simp at h⟩
 |r::es,h=>by
  obtain ⟨x,rfl,hx⟩:=h r (by simp)
  obtain ⟨l,rfl,hl⟩:=dec_list e P es fun r hr=>h r (by simp[hr])
  exact ⟨x::l,rfl,fun y hy=>by
   rcases List.mem_cons.1 hy with rfl|hy
   ·exact hx
   ·exact hl y hy⟩
theorem db_rows {T:Tys} {e:TypeId} {d:TD} {c:C} (h:DB T (.sl e) c) (hd:tget T e=some d):∃es:List (List C),c=.l es∧es.length≤maxLen∧∀r,r∈es→r.length=d.cts.length∧∀(j:Nat) (c:C) (ct:CT),r[j]?=some c→d.cts[j]?=some ct→DB T ct c:=by
 cases h with
 |l e es h h1 h2=>exact ⟨es,rfl,h,fun r hr=>⟨h1 r d hr hd,fun j c ct=>h2 r d j c ct hr hd⟩⟩
theorem db_str {T:Tys} {c:C} (h:DB T .str c):∃s:Str,c=.s s∧s.size≤maxLen:=by cases h with|s x h=>exact ⟨x,rfl,h⟩
theorem db_int {T:Tys} {k:IntKind} {c:C} (h:DB T (.int k) c):∃n:Int,c=.i n:=by cases h with|i k n h=>exact ⟨n,rfl⟩
theorem db_bool {T:Tys} {c:C} (h:DB T .bool c):∃b:Bool,c=.b b:=by cases h with|b x=>exact ⟨x,rfl⟩
theorem db_strs {c:C} (h:DB T0 (.sl 9) c):∃l:List Str,c=.l (l.map sE)∧SsSz maxLen l:=by
 obtain ⟨es,rfl,hl,hr⟩:=db_rows h (d:=⟨.str,[.str],16⟩) rfl
 obtain ⟨l,rfl,h2⟩:=dec_list sE (fun s=>s.size≤maxLen) es fun r hr'=>by
  obtain ⟨h1,h2⟩:=hr r hr'
  match r,h1 with
  |[c],_=>
   obtain ⟨s,rfl,hs⟩:=db_str (h2 0 c .str rfl rfl)
   exact ⟨s,rfl,hs⟩
 exact ⟨l,rfl,by simpa using hl,h2⟩
theorem db_Bt {c:C} (h:DB T0 (.sl 75) c):∃l:List Bt,c=.l (l.map Bt.e)∧l.length≤maxLen∧∀x,x∈l→(fun x=>x.Sz maxLen) x:=by
 obtain ⟨es,rfl,hl,hr⟩:=db_rows h (d:=⟨(.st [(0,9),(1,9),(2,28),(3,3),(4,3),(5,4)]),[.str,.str,(.sl 9),(.int .i64),(.int .i64),.bool],80⟩) rfl
 obtain ⟨l,rfl,h2⟩:=dec_list Bt.e (fun x=>x.Sz maxLen) es fun r hr'=>by
  obtain ⟨h1,h2⟩:=hr r hr'
  match r,h1 with
  |[x0,x1,x2,x3,x4,x5],_=>
   obtain ⟨x0,rfl,sx0⟩:=db_str (h2 0 x0 _ rfl rfl)
   obtain ⟨x1,rfl,sx1⟩:=db_str (h2 1 x1 _ rfl rfl)
   obtain ⟨x2,rfl,zx2⟩:=db_strs (h2 2 x2 _ rfl rfl)
   obtain ⟨x3,rfl⟩:=db_int (h2 3 x3 _ rfl rfl)
   obtain ⟨x4,rfl⟩:=db_int (h2 4 x4 _ rfl rfl)
   obtain ⟨x5,rfl⟩:=db_bool (h2 5 x5 _ rfl rfl)
   exact ⟨⟨x0,x1,x2,x3,x4,x5⟩,rfl,⟨sx0,sx1,zx2⟩⟩
 exact ⟨l,rfl,by simpa using hl,h2⟩
theorem db_Sv {c:C} (h:DB T0 (.sl 78) c):∃l:List Sv,c=.l (l.map Sv.e)∧l.length≤maxLen∧∀x,x∈l→(fun x=>x.Sz maxLen) x:=by
 obtain ⟨es,rfl,hl,hr⟩:=db_rows h (d:=⟨(.st [(0,9),(1,3)]),[.str,(.int .i64)],24⟩) rfl
 obtain ⟨l,rfl,h2⟩:=dec_list Sv.e (fun x=>x.Sz maxLen) es fun r hr'=>by
  obtain ⟨h1,h2⟩:=hr r hr'
  match r,h1 with
  |[x0,x1],_=>
   obtain ⟨x0,rfl,sx0⟩:=db_str (h2 0 x0 _ rfl rfl)
   obtain ⟨x1,rfl⟩:=db_int (h2 1 x1 _ rfl rfl)
   exact ⟨⟨x0,x1⟩,rfl,sx0⟩
 exact ⟨l,rfl,by simpa using hl,h2⟩
theorem db_Lk {c:C} (h:DB T0 (.sl 144) c):∃l:List Lk,c=.l (l.map Lk.e)∧l.length≤maxLen∧∀x,x∈l→(fun x=>x.sel.size≤maxLen) x:=by
 obtain ⟨es,rfl,hl,hr⟩:=db_rows h (d:=⟨(.st [(0,9),(1,3)]),[.str,(.int .i64)],24⟩) rfl
 obtain ⟨l,rfl,h2⟩:=dec_list Lk.e (fun x=>x.sel.size≤maxLen) es fun r hr'=>by
  obtain ⟨h1,h2⟩:=hr r hr'
  match r,h1 with
  |[x0,x1],_=>
   obtain ⟨x0,rfl,sx0⟩:=db_str (h2 0 x0 _ rfl rfl)
   obtain ⟨x1,rfl⟩:=db_int (h2 1 x1 _ rfl rfl)
   exact ⟨⟨x0,x1⟩,rfl,sx0⟩
 exact ⟨l,rfl,by simpa using hl,h2⟩
theorem db_Cp {c:C} (h:DB T0 (.sl 82) c):∃l:List Cp,c=.l (l.map Cp.e)∧l.length≤maxLen∧∀x,x∈l→(fun x=>x.Sz maxLen) x:=by
 obtain ⟨es,rfl,hl,hr⟩:=db_rows h (d:=⟨(.st [(0,9),(1,9),(2,3),(3,3),(4,3),(5,3),(6,9),(7,80),(8,3),(9,9),(10,9),(11,9)]),[.str,.str,(.int .i64),(.int .i64),(.int .i64),(.int .i64),.str,(.sl 144),(.int .i64),.str,.str,.str],160⟩) rfl
 obtain ⟨l,rfl,h2⟩:=dec_list Cp.e (fun x=>x.Sz maxLen) es fun r hr'=>by
  obtain ⟨h1,h2⟩:=hr r hr'
  match r,h1 with
  |[x0,x1,x2,x3,x4,x5,x6,x7,x8,x9,x10,x11],_=>
   obtain ⟨x0,rfl,sx0⟩:=db_str (h2 0 x0 _ rfl rfl)
   obtain ⟨x1,rfl,sx1⟩:=db_str (h2 1 x1 _ rfl rfl)
   obtain ⟨x2,rfl⟩:=db_int (h2 2 x2 _ rfl rfl)
   obtain ⟨x3,rfl⟩:=db_int (h2 3 x3 _ rfl rfl)
   obtain ⟨x4,rfl⟩:=db_int (h2 4 x4 _ rfl rfl)
   obtain ⟨x5,rfl⟩:=db_int (h2 5 x5 _ rfl rfl)
   obtain ⟨x6,rfl,sx6⟩:=db_str (h2 6 x6 _ rfl rfl)
   obtain ⟨x7,rfl,zx7⟩:=db_Lk (h2 7 x7 _ rfl rfl)
   obtain ⟨x8,rfl⟩:=db_int (h2 8 x8 _ rfl rfl)
   obtain ⟨x9,rfl,sx9⟩:=db_str (h2 9 x9 _ rfl rfl)
   obtain ⟨x10,rfl,sx10⟩:=db_str (h2 10 x10 _ rfl rfl)
   obtain ⟨x11,rfl,sx11⟩:=db_str (h2 11 x11 _ rfl rfl)
   exact ⟨⟨x0,x1,x2,x3,x4,x5,x6,x7,x8,x9,x10,x11⟩,rfl,⟨sx0,sx1,sx6,sx9,sx10,sx11,zx7⟩⟩
 exact ⟨l,rfl,by simpa using hl,h2⟩
abbrev ctsFl:List CT:=[.bool,(.sl 75),(.sl 78),(.sl 82)]
theorem rd_Fl {w:World} {vs:List Value} {xs:List C} (h:Rd T0 w ctsFl vs xs):∃f:Fl,xs=f.e∧f.Sz maxLen:=by
 obtain ⟨h1,_,_,h2⟩:=h
 match xs,h1 with
 |[x0,x1,x2,x3],_=>
  obtain ⟨x0,rfl⟩:=db_bool (h2 0 x0 _ rfl rfl)
  obtain ⟨x1,rfl,zx1⟩:=db_Bt (h2 1 x1 _ rfl rfl)
  obtain ⟨x2,rfl,zx2⟩:=db_Sv (h2 2 x2 _ rfl rfl)
  obtain ⟨x3,rfl,zx3⟩:=db_Cp (h2 3 x3 _ rfl rfl)
  exact ⟨⟨x0,x1,x2,x3⟩,rfl,⟨zx1,zx2,zx3⟩⟩
end Go.Ev
