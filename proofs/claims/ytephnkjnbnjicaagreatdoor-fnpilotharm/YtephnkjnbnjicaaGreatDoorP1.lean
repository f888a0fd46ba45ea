/- Proved here: the law FnPilotHarmCard of the given program answers true at every input, and leaves the input as it was; no condition. This text: lemmas on the way (an evaluator of the program's code, sound once for all; the functions it prints; plain proofs on these). -/
import Derived.Test.YtephnkjnbnjicaaGreatDoorP0
import Derived.Laws.BytesString
set_option linter.all false
set_option autoImplicit false
namespace Go.Ev
section
variable {P:Program} {T:Tys} {fr:Fr} {F:Nat->Prop} {w:World} {bx:Bxs} {θ:Nat->Value}
theorem lV (t ty e:TypeId) (i:TypeInfo) (ht:P.underlying t=some (.slice e)) (hi:P.info? e=some i) (A B:Option Addr) (n cap c:Nat) (hc:n<=cap):
  (Builtin.append_ #[t,t] ty #[.slice A n cap,.slice B 0 c]).run P w=.ok (.slice A n cap) w:=by
 have hf:(Builtin.firstCells i.size 0 (.slice B 0 c)).run P w=.ok #[] w:=by
  cases B with
  |none=>simp[Builtin.firstCells]
  |some a=>
   have:=run_loadCells_list (P:=P) w a [] (fun j v h=>by simp at h)
   simpa [Builtin.firstCells] using this
 cases A with
 |none=>simp[Builtin.append_,run_underlying ht,sizeOf,typeInfo,hi,Builtin.lenOf,hc,hf]
 |some a=>simp[Builtin.append_,run_underlying ht,sizeOf,typeInfo,hi,Builtin.lenOf,hc,hf,storeCells]
theorem Cq (hw:WR T fr F w bx θ) {b:Nat} {t:TypeId} {d:TD} {es:List (List C)} {ver g cap m:Nat} {cs:Array Value} {w':World} (hd:bj T t=some d)
  (hv:∀x,bx b=some x->x.ver<ver) (hs:cs.size=cap*d.cts.length) (hc:es.length<=cap/\cap<=maxLen) (hg:w'.heap[g]?=some (.cells cs t (0,0)))
  (hh:∀k,k<w.heap.size->w'.heap[k]?=w.heap[k]?∨(k=g/\∃x,bx b=some x/\x.live=true/\bJ (θ b)=some g))
  (hfresh:(w.heap.size<=g/\g<w'.heap.size)∨∃x,bx b=some x/\x.live=true/\bJ (θ b)=some g)
  (hsz:w.heap.size<=w'.heap.size) (hos:w'.os=w.os) (htp:w'.tape=w.tape) (hou:w'.output=w.output/\w.drawn<=w'.drawn) (hm:¬2<=m)
  (hr:(∀k,F k->w'.heap[k]?=w.heap[k]?)->Rws (cE T F w') d es cs.toList)
  (hl:m≠0->kB T w d es cs.toList/\∀k,jq T w d es cs.toList k->F k/\Fre fr T w bx θ b k):
  Aft T fr F w bx θ ⟨.ow b ver,[(b,.arr ver t es m)]⟩ (.slice (some ⟨g,0,none⟩) es.length cap) w':=
 uj hw hd hv (by omega) hc hg hh hfresh hsz hos htp hou hm (fun h=>by rw[Nb];exact hr h) (fun h=>by rw[Nb];exact (hl h).1) (fun h=>by rw[Nb];exact (hl h).2)
theorem wx (w:World) (t ty e:TypeId) (i:TypeInfo) (ht:P.underlying t=some (.slice e)) (hi:P.info? e=some i)
  (g o sLen sCap:Nat) (cur:Array Value) (hg:w.heap[g]?=some (.cells cur e (0,0)))
  (a:Addr) (m c:Nat) (news:List Value) (hl:news.length=m*i.size) (hnews:∀j u,news[j]?=some u->w.cell? (a.add j)=some u) (h1:∀u∈news,u.oneCell'=true)
  (hroom:sLen+m<=sCap) (hfit:o+sLen*i.size+news.length<=cur.size):
  (Builtin.append_ #[t,t] ty #[.slice (some ⟨g,o,none⟩) sLen sCap,.slice (some a) m c]).run P w=
   .ok (.slice (some ⟨g,o,none⟩) (sLen+m) sCap) (w.setRow g (cur.toList.take (o+sLen*i.size)++news++cur.toList.drop (o+sLen*i.size+news.length)).toArray):=by
 have hf:=run_firstCells_some (P:=P) w i.size m a m c news hl hnews
 have hst:=run_storeCells_at P g (o+sLen*i.size) e news 0 cur w hg (by simpa using hfit) h1
 simp only[Nat.add_zero] at hst
 simp[Builtin.append_,run_underlying ht,sizeOf,typeInfo,hi,Builtin.lenOf,hroom,hf,Addr.add_lit,hst]
theorem Ef (hw:WR T fr F w bx θ) {b:Nat} {t:TypeId} {d:TD} {ver:Nat} (m:Nat) (hd:bj T t=some d) (hv:∀x,bx b=some x->x.ver<ver):
  Aft T fr F w bx θ ⟨.ow b ver,[(b,.arr ver t [] m)]⟩ (.slice none 0 0) w:=by
 have:=hw.put b (.arr ver t [] m) (.slice none 0 0) w (fun x hx=>.inl (hv x hx)) (fun k hk=>.inl rfl) (Mp _) rfl rfl ⟨rfl,Mp _⟩ (fun q hq=>by simp[bJ] at hq)
  (fun k h=>uc h.2) (fun _=>wI.toM)
  (fun _=>⟨d,none,0,hd,ar _ _ _,fun i c h=>by simp at h,.inl ⟨rfl,rfl,rfl⟩⟩)
 exact ⟨F,_,this.1,this.2,.ow b _ _ _ (ar _ _ _) (Mp _) ⟨_,_,_,rfl⟩ fun _=>⟨t,[],m,rfl,(ar _ _ _).symm⟩⟩
theorem iZ.mode {b ver m:Nat} {t:TypeId} {es:List (List C)} (h:iZ T F w bx θ b (.arr ver t es 0)) (hm:¬2<=m):iZ T F w bx θ b (.arr ver t es m):=by
 obtain ⟨d,A,cap,h1,h2,h3,h4⟩:=h
 refine ⟨d,A,cap,h1,h2,h3,h4.imp id ?_⟩
 rintro ⟨g,o,cs,q1,q2,q3,q4,q5⟩
 exact ⟨g,o,cs,q1,q2,q3,q4,fun i c j x ct v a1 a2 a3 a4=>by rw[rE hm];exact q5 i c j x ct v a1 a2 a3 a4⟩
theorem zP {t:TypeId} {d:TD} {es:List (List C)} {v:Value} {k:Nat} (hd:bj T t=some d) (hf:bF d.cts=true):¬Nst T w t es v k:=by
 rintro ⟨i,j,ct,c,u,⟨d',g,o,n,cap,row,h1,h2,h3,h4,h5,h6⟩,hk⟩
 rw[hd] at h1;obtain rfl:=Mh h1
 have:=cH hf _ _ h5
 rw[nw hk] at this;simp at this
theorem wo {b ver:Nat} {t:TypeId} {d:TD} {es:List (List C)} (h:iZ T F w bx θ b (.arr ver t es 0)) (hd:bj T t=some d) (hf:bF d.cts=true):qu T w t es (θ b):=by
 obtain ⟨d',A,cap,h1,h2,h3,h4⟩:=h
 rw[hd] at h1;obtain rfl:=Mh h1
 refine ⟨fun i j ct c u hc=>?_,fun i j ct c u i' j' ct' c' u' k h1 h2 h3 h4=>absurd ⟨i,j,ct,c,u,h1,h3⟩ (zP hd hf)⟩
 obtain ⟨d',g,o,n,cap',row,c1,c2,c3,c4,c5,c6⟩:=hc
 rw[hd] at c1;obtain rfl:=Mh c1
 rw[h2] at c2
 simp only[ML] at c2
 obtain ⟨rfl,rfl,rfl⟩:=c2
 rcases h4 with ⟨q,_⟩|⟨g',o',cs,q1,q2,q3,q4,q5⟩
 ·simp at q
 ·simp only[Mj,Addr.mk.injEq,and_true] at q1
  obtain ⟨rfl,rfl⟩:=q1
  have q6:cE T F w ct c u:=q5 i row j c ct u c3 c4 c5 (by simpa [World.cell?,q2] using c6)
  exact q6.rl (cH hf _ _ c5)
theorem zK (d:TD):¬2<=mF d/\(mF d≠0->bF d.cts=true):=by
 unfold mF
 cases h:bF d.cts<;>simp[sif]
theorem qP (w:World) (o:Obj):(w.drew.alloc o).os=w.os/\(w.drew.alloc o).tape=w.tape/\((w.drew.alloc o).output=w.output/\w.drawn<=(w.drew.alloc o).drawn)/\(w.drew.alloc o).heap.size=w.heap.size+1/\
  (w.drew.alloc o).heap[w.heap.size]?=some o/\∀k,k<w.heap.size->(w.drew.alloc o).heap[k]?=w.heap[k]?:=
 ⟨rfl,rfl,⟨rfl,Nat.le_succ _⟩,by simp,heap_alloc_new w.drew o,fun k hk=>heap_alloc_old w.drew o hk⟩
theorem Bi:4294967296<=maxLen:=by simp[maxLen]
theorem zQ {n b:Nat} (hn:n<=4294967296) (hb:b<=16384):n*b<=70368744177664:=MR (Nat.mul_le_mul hn hb) (by decide)
theorem BM {b v m md:Nat} {lo hi:Int} {t:TypeId} {d:TD} {es:List (List C)} {va:Value} (hx:aj T F w bx θ (.vw b v lo hi) va) (hbx:bx b=some (.arr v t es m)) (hm:¬2<=m) (hd0:bj T t=some d) (hmd:¬2<=md/\(md≠0->bF d.cts=true)) (hlo:lo=0∨lo<hi) (hw:WR T fr F w bx θ):
  (WR T fr F w (upd bx b (some (.arr (v+1) t ((es.take hi.toNat).drop lo.toNat) md))) (upd θ b va)/\Mv F w bx θ F w (upd bx b (some (.arr (v+1) t ((es.take hi.toNat).drop lo.toNat) md))) (upd θ b va))/\∃A n c,va=.slice A n c:=by
 obtain ⟨_,dt,A,c,hd,h0,h1,h2,hva,hcc,hblk,hZ⟩:=tx hx hbx (Nat.beq_refl _)
 rw[hd0] at hd
 obtain rfl:=Mh hd
 obtain ⟨d2,A2,cap2,hd2,hth2,hlen2,hA2⟩:=qL hw hbx hm
 rw[hd0] at hd2
 obtain rfl:=Mh hd2
 have hl:((es.take hi.toNat).drop lo.toNat).length=(hi-lo).toNat:=zf h0 h1 h2
 have key:∀(i:Nat) (c:List C),((es.take hi.toNat).drop lo.toNat)[i]?=some c->es[lo.toNat+i]?=some c:=by
  intro i c hc
  rw[MB,List.getElem?_take] at hc
  split at hc
  ·exact hc
  ·simp at hc
 have hR:iZ T F w (upd bx b (some (.arr (v+1) t ((es.take hi.toNat).drop lo.toNat) md))) (upd θ b va) b (.arr (v+1) t ((es.take hi.toNat).drop lo.toNat) 0):=by
   refine ⟨d,A,c,hd0,by rw[ar,hva,hl],fun i q hq=>hlen2 _ q (key i q hq),?_⟩
   rcases hlo with hz|hz
   ·have hth:=hZ hz
    rw[hth] at hth2
    simp only[ML,true_and] at hth2
    obtain ⟨rfl,rfl⟩:=hth2
    rcases hA2 with ⟨rfl,rfl,rfl⟩|⟨g,o,cs,g1,g2,g3,g4,g5⟩
    ·exact .inl ⟨rfl,by simp,rfl⟩
    ·refine .inr ⟨g,o,cs,g1,g2,g3,⟨by omega,g4.2⟩,fun i q j x ct u a1 a2 a3 a4=>?_⟩
     have hz':lo.toNat+i=i:=by omega
     have a1':=key i q a1
     rw[hz'] at a1'
     exact g5 i q j x ct u a1' a2 a3 a4
   ·obtain ⟨g,o,e1,rfl⟩:=hblk hz
    rw[e1] at hth2
    simp only[ML,true_and] at hth2
    obtain ⟨rfl,rfl⟩:=hth2
    rcases hA2 with ⟨q1,_,_⟩|⟨g',o',cs,g1,g2,g3,g4,g5⟩
    ·simp at q1
    ·simp only[Mj,Addr.mk.injEq,and_true] at g1
     obtain ⟨rfl,rfl⟩:=g1
     refine .inr ⟨g,o+lo.toNat*d.cts.length,cs,rfl,g2,by rw[g3,Nat.add_mul];omega,⟨by omega,by omega⟩,fun i q j x ct u a1 a2 a3 a4=>?_⟩
     refine g5 (lo.toNat+i) q j x ct u (key i q a1) a2 a3 ?_
     rw[←a4];congr 1;rw[Nat.add_mul];omega
 have hput:=hw.put b (.arr (v+1) t ((es.take hi.toNat).drop lo.toNat) md) va w (fun z hz=>by
   replace hz:bx b=some z:=hz
   rw[hbx] at hz;obtain rfl:=Mh hz;exact .inl (Nat.lt_succ_self v)) (fun q hq=>.inl rfl) (Mp _) rfl rfl ⟨rfl,Mp _⟩
  (fun q hq=>.inr ⟨_,hbx,rfl,by
   rw[hva] at hq
   rcases hlo with hz|hz
   ·rw[hZ hz];cases A<;>simpa [bJ] using hq
   ·obtain ⟨g,o,e1,rfl⟩:=hblk hz
    rw[e1];simpa [bJ] using hq⟩)
  (fun k hk=>zP hd0 (hmd.2 hk.1) hk.2) (fun h=>by have:=wo hR hd0 (hmd.2 h);rw[ar] at this;exact this.toM) (fun _=>hR.mode hmd.1)
 exact ⟨hput,A,_,c,hva⟩
theorem F8 (hw:WR T fr F w bx θ) {e:TypeId} {de:TD} {b' m m':Nat} {es src:List (List C)} {us news ws:List Value} (hy:es≠[]->∃v',bx b'=some (.arr v' e es m))
  (hus:∀i j ct c u,AtU de es us i j ct c u->cM T w e es (θ b') i j ct c u) (hul:us.length=es.length*de.cts.length) (hnl:news.length=src.length*de.cts.length) (hrw:Rws (cE T F w) de es us) (hnr:Rws (cE T F w) de src news)
  (hlin:m'≠0->bF de.cts=true∨((es≠[]->m=1)/\kB T w de src news/\∀k,jq T w de src news k->F k/\∀c,Fre fr T w bx θ c k)):
  m'≠0->kB T w de (es++src) (us++news++ws)/\∀k,jq T w de (es++src) (us++news++ws) k->F k/\Fre fr T w bx θ b' k:=by
 intro h0
 rcases hlin h0 with hf|⟨hm1,hL,hN⟩
 ·exact ⟨vT hf (Rws.app hrw hul hnr hnl),fun k hk=>absurd hk (si hf)⟩
 ·have hu:kB T w de es us/\∀k,jq T w de es us k->∃v',bx b'=some (.arr v' e es 1)/\(Box.arr v' e es 1).nst T w (θ b') k:=by
   by_cases he:es=[]
   ·have no:∀i j ct c u,¬AtU de es us i j ct c u:=by
     subst he
     rintro i j ct c u ⟨row,h1,_⟩
     simp at h1
    exact ⟨⟨fun i j ct c u h=>absurd h (no _ _ _ _ _),fun i j ct c u i' j' ct' c' u' k h=>absurd h (no _ _ _ _ _)⟩,fun k ⟨i,j,ct,c,u,h,_⟩=>absurd h (no _ _ _ _ _)⟩
   ·obtain ⟨v',hy⟩:=hy he
    obtain rfl:=hm1 he
    have hb:qu T w e es (θ b'):=(hw.lin b' _ hy (by decide)).1 (by decide)
    exact ⟨⟨fun i j ct c u h=>hb.rel _ _ _ _ _ (hus _ _ _ _ _ h),fun i j ct c u i' j' ct' c' u' k h1 h2=>hb.dj _ _ _ _ _ _ _ _ _ _ k (hus _ _ _ _ _ h1) (hus _ _ _ _ _ h2)⟩,fun k ⟨i,j,ct,c,u,h1,h2⟩=>⟨v',hy,by decide,i,j,ct,c,u,hus _ _ _ _ _ h1,h2⟩⟩
  refine ⟨kB.app hu.1 hul hL hnl fun k h1 h2=>?_,fun k hk=>?_⟩
  ·obtain ⟨v',hy,hn⟩:=hu.2 k h1
   exact ((hN k h2).2 (b'+1)).2.2.2 b' _ (by omega) hy hn
  rcases I1 hul hnl hk with h|h
  ·obtain ⟨v',hy,hn⟩:=hu.2 k h
   exact ⟨(hw.own b' _ k hy hn).2.2.1 (by simp[Box.m]),xU hw hy hn⟩
  ·exact ⟨(hN k h).1,(hN k h).2 b'⟩
theorem ti (hT:TOk P T) (hw:WR T fr F w bx θ) {t ty e:TypeId} {de:TD} {b' v' m m':Nat} {es src:List (List C)} {B:Option Addr} {c:Nat} {news:List Value}
  (he:ey T t=some e) (hde:bj T e=some de) (c1:de.bytes<=16384) (hy:bx b'=some (.arr v' e es m)) (hm:¬2<=m) (hm':¬2<=m') (hlin:m'≠0->bF de.cts=true∨(m=1/\kB T w de src news/\∀k,jq T w de src news k->F k/\∀c,Fre fr T w bx θ c k)) (c3:es.length+src.length<=4294967296)
  (hnl:news.length=src.length*de.cts.length) (hnr:Rws (cE T F w) de src news) (hnc:src=[]∨∃a,B=some a/\∀j u,news[j]?=some u->w.cell? (a.add j)=some u):
  ∃v w',(Builtin.append_ #[t,t] ty #[θ b',.slice B src.length c]).run P w=.ok v w'/\Aft T fr F w bx θ ⟨.ow b' (v'+1),[(b',.arr (v'+1) e (es++src) m')]⟩ v w':=by
 have ht:=cC hT hde
 have hte:=fV hT he
 have hpos:=ht.pos
 obtain ⟨i,z,hi,hz,hsz,hb,hzc⟩:=ht.facts
 have hzs:z.cells.size=de.cts.length:=by simp[hzc]
 have hn1:=hnr.one hpos hnl
 have hmx:=Bi
 obtain ⟨A,cap,us,hth,hul,hrw,hA⟩:=oN (qL hw hy hm) hde
 have hvv:∀x,bx b'=some x->x.ver<v'+1:=fun x hx=>by rw[hy] at hx;obtain rfl:=Mh hx;exact Nat.lt_succ_self _
 have hel:(es++src).length=es.length+src.length:=by simp
 have hlin2:m'≠0->bF de.cts=true∨((es≠[]->m=1)/\kB T w de src news/\∀k,jq T w de src news k->F k/\∀c,Fre fr T w bx θ c k):=fun h=>(hlin h).imp id fun h=>⟨fun _=>h.1,h.2⟩
 have hus:∀i j ct c u,AtU de es us i j ct c u->cM T w e es (θ b') i j ct c u:=by
  rintro i j ct c u ⟨row,h1,h2,h3,h4⟩
  rcases hA with ⟨_,rfl,_⟩|⟨g,o,cs,rfl,q1,q2,q3,rfl⟩
  ·simp at h1
  ·rw[hth]
   refine (dE hde q1).2 ⟨row,h1,h2,h3,?_⟩
   rw[List.getElem?_take] at h4
   split at h4
   ·exact h4
   ·simp at h4
 have hall:∀ws,m'≠0->kB T w de (es++src) (us++news++ws)/\∀k,jq T w de (es++src) (us++news++ws) k->F k/\Fre fr T w bx θ b' k:=fun ws=>F8 hw (fun _=>⟨v',hy⟩) hus hul hnl hrw hnr hlin2
 rcases hA with ⟨rfl,rfl,rfl⟩|⟨g,o,cs,rfl,q1,q2,q3,rfl⟩
 ·rw[hth]
  by_cases h0:src=[]
  ·subst h0
   exact ⟨_,_,lV t ty e i hte hi none B 0 0 c (Mp _),Ef hw m' hde hvv⟩
  ·obtain ⟨a,rfl,hcell⟩:=hnc.resolve_left h0
   have hlp:0<src.length:=List.length_pos_iff.2 h0
   have c2:src.length<=4294967296:=by simpa using c3
   have hby:=zQ c2 c1
   rw[←hb] at hby
   have hrun:=run_append_nil (P:=P) w t ty e i z hte hi hz a src.length c news (by rw[hsz];exact hnl) hcell hlp (by omega) (by omega)
   obtain ⟨f1,f2,f3,f4,f5,f6⟩:=qP w (.cells (news.toArray++Builtin.zeroCells z.cells (grownCap w src.length 0 e-src.length)) e)
   have g1:=grownCap_ge w src.length 0 e
   have g2:=grownCap_le_maxLen w src.length 0 e (by omega)
   refine ⟨_,_,hrun,Cq (es:=[]++src) hw hde hvv ?_ ⟨by simpa using g1,g2⟩ f5 (fun k hk=>.inl (f6 k hk)) (.inl ⟨Mp _,by omega⟩) (by omega) f1 f2 f3 hm' ?_ fun h=>by
    have hu0:us=[]:=List.length_eq_zero_iff.1 (by simpa using hul)
    subst hu0
    simpa using hall (Builtin.zeroCells z.cells (grownCap w src.length 0 e-src.length)).toList h⟩
   ·simp only[Array.size_append,List.size_toArray,size_zeroCells,hnl,hzs]
    rw[←Nat.add_mul];congr 1;omega
   ·intro hF
    have h1:=(Rws.app (Rws.nil de []) (by simp) hnr hnl (ws:=(Builtin.zeroCells z.cells (grownCap w src.length 0 e-src.length)).toList))
    simpa using h1.mv (fun _ h=>h) hF
 ·rw[hth]
  have hlive:∃x,bx b'=some x/\x.live=true/\bJ (θ b')=some g:=⟨_,hy,rfl,by rw[hth];rfl⟩
  have hfull:Rws (cE T F w) de es (cs.toList.drop o):=hrw.wM (by rw[List.take_take,Nat.min_self])
  by_cases h0:src=[]
  ·subst h0
   refine ⟨_,_,lV t ty e i hte hi _ B es.length cap c q3.1,?_⟩
   have hnn:news=[]:=List.length_eq_zero_iff.1 (by simpa using hnl)
   subst hnn
   have hall:=fun h=>hall ((cs.toList.drop o).drop (es.length*de.cts.length)) h
   simp only[M1,List.take_append_drop] at hall
   have:=uj (es:=es++[]) (cap:=cap) (cs:=cs) (g:=g) (o:=o) (m:=m') (w':=w) hw hde hvv q2 (by simpa using q3) q1 (fun k hk=>.inl rfl) (.inr hlive) (Mp _) rfl rfl ⟨rfl,Mp _⟩ hm' (fun _=>by simpa using hfull) (fun h=>by simpa using (hall h).1) (fun h=>by simpa using (hall h).2)
   simpa using this
  ·obtain ⟨a,rfl,hcell⟩:=hnc.resolve_left h0
   have hcsl:cs.toList.length=cs.size:=by simp
   by_cases hroom:es.length+src.length<=cap
   ·have hfit:o+es.length*de.cts.length+news.length<=cs.size:=by
     rw[hnl,q2,Nat.add_assoc,←Nat.add_mul];exact Nat.add_le_add_left (MA _ hroom) o
    have hrun:=wx (P:=P) w t ty e i hte hi g o es.length cap cs q1 a src.length c news (by rw[hsz];exact hnl) hcell hn1 hroom (by rw[hsz];exact hfit)
    rw[hsz] at hrun
    obtain ⟨f1,f2,f3,f4⟩:=je w g (cs.toList.take (o+es.length*de.cts.length)++news++cs.toList.drop (o+es.length*de.cts.length+news.length)).toArray
    refine ⟨_,_,hrun,?_⟩
    have:=uj (es:=es++src) (cap:=cap) (g:=g) (o:=o) (ver:=v'+1) (m:=m') (w':=w.setRow g (cs.toList.take (o+es.length*de.cts.length)++news++cs.toList.drop (o+es.length*de.cts.length+news.length)).toArray) hw hde hvv
     (by rw[List.size_toArray,eC (by omega)];exact q2) ⟨by omega,q3.2⟩ (setRow_heap w g _ _ e _ q1)
     (fun k hk=>by
      by_cases hkg:k=g
      ·exact .inr ⟨hkg,hlive⟩
      ·exact .inl (setRow_other w g k _ hkg)) (.inr hlive) (by omega) f1 f2 f3 hm'
     (fun hF=>by
      have h1:=Rws.app hrw hul hnr hnl (ws:=(cs.toList.drop o).drop (es.length*de.cts.length+news.length))
      have h2:=h1.mv (fun _ h=>h) hF
      rw[←iH _ _ _ _ (by omega)] at h2
      simpa using h2)
     (fun h=>by
      have:=(hall ((cs.toList.drop o).drop (es.length*de.cts.length+news.length)) h).1
      rw[←iH _ _ _ _ (by omega)] at this
      simpa using this)
     (fun h=>by
      have:=(hall ((cs.toList.drop o).drop (es.length*de.cts.length+news.length)) h).2
      rw[←iH _ _ _ _ (by omega)] at this
      simpa using this)
    rw[hel] at this
    exact this
   ·have hby:=zQ c3 c1
    rw[←hb] at hby
    have hgf:=growslice_fits (need:=es.length+src.length) (old:=cap) (bytes:=i.bytes) (by omega) (by omega)
    have hrun:=run_append_grow (P:=P) w t ty e i z hte hi hz ⟨g,o,none⟩ es.length cap ((cs.toList.drop o).take (es.length*de.cts.length)) (by rw[hsz];exact hul)
     (fun j u hu=>by
      rw[Addr.add_lit]
      rw[List.getElem?_take] at hu
      split at hu
      ·rw[MB] at hu
       simp[World.cell?,q1];simpa using hu
      ·simp at hu)
     a src.length c news (by rw[hsz];exact hnl) hcell (by omega) (by omega) hgf
    have g1:=grownCap_ge w (es.length+src.length) cap e
    have g2:=grownCap_le_maxLen w (es.length+src.length) cap e (by omega)
    obtain ⟨f1,f2,f3,f4,f5,f6⟩:=qP w (.cells (((cs.toList.drop o).take (es.length*de.cts.length)).toArray++news.toArray++Builtin.zeroCells z.cells (grownCap w (es.length+src.length) cap e-(es.length+src.length))) e)
    refine ⟨_,_,hrun,?_⟩
    have:=Cq (es:=es++src) (cap:=grownCap w (es.length+src.length) cap e) (ver:=v'+1) (m:=m') hw hde hvv
     (by
      simp only[Array.size_append,List.size_toArray,size_zeroCells,hnl,hzs,hul]
      rw[←Nat.add_mul,←Nat.add_mul];congr 1;omega) ⟨by omega,g2⟩ f5 (fun k hk=>.inl (f6 k hk)) (.inl ⟨Mp _,by omega⟩) (by omega) f1 f2 f3 hm'
     (fun hF=>by
      have h1:=Rws.app hrw hul hnr hnl (ws:=(Builtin.zeroCells z.cells (grownCap w (es.length+src.length) cap e-(es.length+src.length))).toList)
      simpa using h1.mv (fun _ h=>h) hF)
     (fun h=>by simpa using hall (Builtin.zeroCells z.cells (grownCap w (es.length+src.length) cap e-(es.length+src.length))).toList h)
    rw[hel] at this
    exact this
theorem tZ (hT:TOk P T) (hw:WR T fr F w bx θ) {e:TypeId} {de:TD} (hde:bj T e=some de) {x:V} {v:Value} (hx:aj T F w bx θ x v) {k:List (List C)->List Nat->R} {r:Out}
  (h:jr e x bx k=some r):∃src rd,k src rd=some r/\Src T F w de src v/\∀b ver v t es m,x=.ow b ver->bx b=some (.arr v t es m)->t=e/\src=es:=by
 by_cases hq:∃b ver,x=.ow b ver
 ·obtain ⟨b,ver,rfl⟩:=hq
  have h2:=h
  unfold jr at h
  replace h:=kR h;obtain ⟨y,hy,h⟩:=h
  split at h
  ·rename_i v e' es m
   replace h:=kS h;obtain ⟨c1,h⟩:=h
   have hk:jr e (.ow b ver) bx (fun s _=>some (.ret [.l s]))=some (.ret [.l es]):=by
    show (match bx b with|some x=>_|none=>none)=_
    rw[hy]
    show sif _ _ _=_
    rw[c1];rfl
   obtain ⟨src,rd,h1,h3⟩:=ri hT hw hde hx hk
   simp only[Mj,Out.ret.injEq,List.cons.injEq,C.l.injEq,and_true] at h1
   subst h1
   refine ⟨_,_,h,h3,fun b' ver' v' t' es' m' e1 e2=>?_⟩
   simp only[V.ow.injEq] at e1
   obtain ⟨rfl,rfl⟩:=e1
   rw[hy] at e2
   simp only[Mj,Box.arr.injEq] at e2
   obtain ⟨rfl,rfl,rfl,rfl⟩:=e2
   simp only[ao,Mk] at c1
   exact ⟨(Mi c1.1.2).symm,rfl⟩
  ·exact (aC h).elim
 ·obtain ⟨src,rd,h1,h2⟩:=ri hT hw hde hx h
  exact ⟨src,rd,h1,h2,fun b ver v t es m e=>absurd ⟨b,ver,e⟩ hq⟩
theorem Aft.kill {K:List KE} {F1:Nat->Prop} (m1:Mv F w bx θ F1 w (dL bx (ca K)) θ) {v:V} {up:List (Nat×Box)} {val:Value} {w':World} (h:Aft T fr F1 w (dL bx (ca K)) θ ⟨v,up⟩ val w'):Aft T fr F w bx θ ⟨v,app (ca K) up⟩ val w':=by
 obtain ⟨F2,θ2,a1,a2,a3⟩:=h
 refine ⟨F2,θ2,?_,?_,?_⟩
 ·show WR T fr F2 w' (dL bx (app (ca K) up)) θ2
  rw[kb];exact a1
 ·show Mv F w bx θ F2 w' (dL bx (app (ca K) up)) θ2
  rw[kb];exact m1.trans a2
 ·show aj T F2 w' (dL bx (app (ca K) up)) θ2 v val
  rw[kb];exact a3
theorem Lo {X:Cx} (hw:WR T fr F w bx θ) {x:V} {vx:Value} (hx:aj T F w bx θ x vx) {de:TD} {e:TypeId} (hde:bj T e=some de) {src:List (List C)} {news:List Value} {B:Option Addr} {n c:Nat} (hvx:vx=.slice B n c) (hnc:src=[]∨∃a,B=some a/\∀j u,news[j]?=some u->w.cell? (a.add j)=some u)
  (hs:∀b ver v t es m,x=.ow b ver->bx b=some (.arr v t es m)->t=e/\src=es) {k:List KE×Bool->List Nat->R} {r:Out} (h:mvK X x bx k=some r):
  ∃K q rd,k (K,q) rd=some r/\∃F1,WR T fr F1 w (dL bx (ca K)) θ/\Mv F w bx θ F1 w (dL bx (ca K)) θ/\
   (q=true->kB T w de src news/\∀k,jq T w de src news k->F1 k/\∀c,Fre fr T w (dL bx (ca K)) θ c k):=by
 unfold mvK at h
 split at h
 ·rename_i b ver
  cases hmb:cZ X.mv b with
  |false=>rw[hmb,aX] at h;exact ⟨[],false,_,h,F,hw,Mv.refl _ _ _ _,by simp⟩
  |true=>
   rw[hmb,ai] at h
   rw[bnd] at h;obtain ⟨q,rdq,h_,hq⟩:=nh h;clear h;have h:=h_;clear h_
   rw[bnd] at h;obtain ⟨K,rdk,h_,hK,hO,hN⟩:=oS h;clear h;have h:=h_;clear h_
   have hnd:bM (bZ (ca K))=true:=by rw[hN];rfl
   obtain ⟨F1,hw1,m1,r1,gK⟩:=Fw hw hK hnd
   refine ⟨K,q,_,h,F1,hw1,m1,fun hqt=>?_⟩
   obtain ⟨t,es,hm⟩:=hO b ver (by simp)
   obtain ⟨m,hb,hm2⟩:=hK _ _ _ _ hm
   have hm1:m=1:=by
    rcases hq hqt _ (MH.2 rfl) with ⟨t,c,e1,_⟩|e1|e1|⟨b',ver',v',t',es',e1,e2⟩
    ·simp at e1
    ·simp at e1
    ·simp at e1
    ·simp only[V.ow.injEq] at e1
     obtain ⟨rfl,rfl⟩:=e1
     rw[hb] at e2
     simp only[Mj,Box.arr.injEq] at e2
     exact e2.2.2.2
   subst hm1
   obtain ⟨rfl,rfl⟩:=hs b ver ver t es 1 rfl hb
   obtain ⟨_,rfl⟩:=oC hx hb (Nat.beq_refl _)
   have hca:∀i j ct c u,AtU de src news i j ct c u->cM T w t src (θ b) i j ct c u:=by
    rintro i j ct c u ⟨row,h1,h2,h3,h4⟩
    rcases hnc with rfl|⟨a,rfl,hcell⟩
    ·simp at h1
    obtain ⟨d',A,cap,q1,q2,q3,q4⟩:=hw.box b _ hb
    rw[hde] at q1;obtain rfl:=Mh q1
    rw[hvx] at q2
    simp only[ML] at q2
    obtain ⟨rfl,rfl,rfl⟩:=q2
    rcases q4 with ⟨q,_⟩|⟨g',o',cs,q1,_⟩
    ·simp at q
    ·simp only[Mj] at q1
     subst q1
     refine ⟨de,g',o',_,_,row,hde,hvx,h1,h2,h3,?_⟩
     rw[←Addr.add_lit]
     exact hcell _ _ h4
   have hb1:qu T w t src (θ b):=(hw.lin b _ hb (by decide)).1 (by decide)
   refine ⟨⟨fun i j ct c u h=>hb1.rel _ _ _ _ _ (hca _ _ _ _ _ h),fun i j ct c u i' j' ct' c' u' k h1 h2=>hb1.dj _ _ _ _ _ _ _ _ _ _ k (hca _ _ _ _ _ h1) (hca _ _ _ _ _ h2)⟩,fun k ⟨i,j,ct,c,u,h1,h2⟩=>?_⟩
   have hin:InT T w (.sl t) (.l src) (θ b) k:=.sub _ _ _ _ _ _ _ _ _ (hca _ _ _ _ _ h1) h2
   refine ⟨?_,fun c=>zE hw hm hb hin c⟩
   rcases (iX hw hb).2 k hin with a|a
   ·exact gK _ _ _ _ hm k a
   ·exact m1.sub _ ((hw.own b _ k hb ⟨by decide,a⟩).2.2.1 (by simp[Box.m]))
 ·exact ⟨[],false,_,h,F,hw,Mv.refl _ _ _ _,by simp⟩
theorem Fj {X:Cx} (hT:TOk P X.T) (hw:WR X.T fr F w bx θ) {t:TypeId} {b:Nat} {s x:V} {vs vx:Value} (hs:aj X.T F w bx θ s vs) (hx:aj X.T F w bx θ x vx) {k:Eff->List Nat->R} {r:Out} (ty:TypeId)
  (h:uS X t b s x bx k=some r):Chg P X.T fr F w bx θ (Builtin.append_ #[t,t] ty #[vs,vx]) k r:=by
 unfold uS at h
 replace h:=kO h;obtain ⟨e,he,h⟩:=h
 replace h:=kO h;obtain ⟨de,hde,h⟩:=h
 replace h:=kS h;obtain ⟨c1,h⟩:=h
 rw[bnd] at h;obtain ⟨src,rd,h_,hsrc,hsr2⟩:=tZ hT hw hde hx h;clear h;have h:=h_;clear h_
 have c1:=MJ c1
 have ht:=cC hT hde
 have hte:=fV hT he
 have hpos:=ht.pos
 obtain ⟨i,z,hi,hz,hsz,hb,hzc⟩:=ht.facts
 have hzs:z.cells.size=de.cts.length:=by simp[hzc]
 obtain ⟨B,c,news,rfl,hnl,hnr,hnc⟩:=hsrc
 have hn1:=hnr.one hpos hnl
 have hmx:=Bi
 rw[bnd] at h;obtain ⟨K,q,rdk,h_,F1,hw1,m1,hlin⟩:=Lo hw hx hde rfl hnc hsr2 h;clear h;have h:=h_;clear h_
 have hnr1:Rws (cE X.T F1 w) de src news:=hnr.mv m1.sub m1.heap
 split at h
 ·cases hs
  replace h:=kC h;obtain ⟨c2,h⟩:=h
  rw[bnd,lp] at h
  replace h:=kS h;obtain ⟨c4,h⟩:=h
  simp only[Ms] at c2
  have c4:cZ (bZ (ca K)) b=false:=by
   have:bM (b::bZ (ca K))=true:=c4
   have:=by simpa [bM,ao,cX] using this
   exact this.1
  have hvv:∀y,dL bx (ca K) b=some y->y.ver<fY bx b:=fun y hy=>ph (by rw[qG c4] at hy;exact hy)
  generalize hmd:sif (orS (bF de.cts) q) 1 0=md at*
  have hm2:¬2<=md:=by rw[←hmd];cases orS (bF de.cts) q<;>decide
  have hl2:md≠0->bF de.cts=true∨((([]:List (List C))≠[]->(0:Nat)=1)/\kB X.T w de src news/\∀k,jq X.T w de src news k->F1 k/\∀c,Fre fr X.T w (dL bx (ca K)) θ c k):=fun h0=>by
   rw[←hmd] at h0
   cases hf:bF de.cts with
   |true=>exact .inl rfl
   |false=>
    rw[hf] at h0
    cases q with
    |false=>exact absurd rfl h0
    |true=>exact .inr ⟨by simp,hlin rfl⟩
  by_cases h0:src=[]
  ·subst h0
   refine ⟨_,_,_,_,h,lV t ty e i hte hi none B 0 0 c (Mp _),Aft.kill m1 (Ef hw1 _ hde hvv)⟩
  ·obtain ⟨a,rfl,hcell⟩:=hnc.resolve_left h0
   have hlp:0<src.length:=List.length_pos_iff.2 h0
   have hby:=zQ c2 c1
   rw[←hb] at hby
   have hrun:=run_append_nil (P:=P) w t ty e i z hte hi hz a src.length c news (by rw[hsz];exact hnl) hcell hlp (by omega) (by omega)
   obtain ⟨f1,f2,f3,f4,f5,f6⟩:=qP w (.cells (news.toArray++Builtin.zeroCells z.cells (grownCap w src.length 0 e-src.length)) e)
   have g1:=grownCap_ge w src.length 0 e
   have g2:=grownCap_le_maxLen w src.length 0 e (by omega)
   refine ⟨_,_,_,_,h,hrun,Aft.kill m1 (Cq hw1 hde hvv ?_ ⟨g1,g2⟩ f5 (fun k hk=>.inl (f6 k hk)) (.inl ⟨Mp _,by omega⟩) (by omega) f1 f2 f3 hm2 ?_ fun h=>?_)⟩
   ·simp only[Array.size_append,List.size_toArray,size_zeroCells,hnl,hzs]
    rw[←Nat.add_mul];congr 1;omega
   ·intro hF
    have h1:=(Rws.app (Rws.nil de []) (by simp) hnr1 hnl (ws:=(Builtin.zeroCells z.cells (grownCap w src.length 0 e-src.length)).toList))
    simpa using h1.mv (fun _ h=>h) hF
   ·have:=F8 (b':=b) (e:=e) (m:=0) (m':=md) (es:=[]) (us:=[]) (ws:=(Builtin.zeroCells z.cells (grownCap w src.length 0 e-src.length)).toList) hw1 (by simp) (fun i j ct c u ⟨row,h1,_⟩=>by simp at h1) (by simp) hnl (Rws.nil de []) hnr1 hl2 h
    simpa using this
 ·rename_i b' ver
  replace h:=kR h;obtain ⟨y,hy,h⟩:=h
  split at h
  ·rename_i v' e' es m
   replace h:=kS h;obtain ⟨c2,h⟩:=h
   replace h:=kC h;obtain ⟨c3,h⟩:=h
   replace h:=kS h;obtain ⟨c4,h⟩:=h
   rw[ao,Mk,ao,Mk] at c2
   simp only[Ms] at c3
   have c4:cZ (bZ (ca K)) b'=false:=by
    have:bM (b'::bZ (ca K))=true:=c4
    have:=by simpa [bM,ao,cX] using this
    exact this.1
   have e1:=Mi c2.1.2;subst e1
   obtain ⟨rfl,rfl⟩:=oC hs hy c2.1.1
   generalize hmd:sif (orS (bF de.cts) (az (Nat.beq m 1) q)) 1 0=md at*
   have hm2:¬2<=md:=by rw[←hmd];cases orS (bF de.cts) (az (Nat.beq m 1) q)<;>decide
   obtain ⟨v,w',q1,q2⟩:=ti (ty:=ty) (c:=c) (m':=md) hT hw1 he hde c1 (by rw[qG c4];exact hy) (lv c2.2) hm2 (fun h0=>by
    rw[←hmd] at h0
    cases hf:bF de.cts with
    |true=>exact .inl rfl
    |false=>
     rw[hf] at h0
     cases hq:az (Nat.beq m 1) q with
     |false=>rw[hq] at h0;exact absurd rfl h0
     |true=>
      rw[ao,Mk] at hq
      exact .inr ⟨Mi hq.1,hlin hq.2⟩) c3 hnl hnr1 hnc
   exact ⟨_,_,_,_,h,q1,Aft.kill m1 q2⟩
  ·exact (aC h).elim
 ·rename_i b' ver lo hi'
  replace h:=kR h;obtain ⟨y,hy,h⟩:=h
  split at h
  ·rename_i v' e' es m
   replace h:=kS h;obtain ⟨c2,h⟩:=h
   replace h:=kC h;obtain ⟨c4,h⟩:=h
   replace h:=kC h;obtain ⟨c3,h⟩:=h
   replace h:=kS h;obtain ⟨cK,h⟩:=h
   rw[ao,Mk,ao,Mk] at c2
   simp only[Ms] at c3 c4
   have e1:=Mi c2.1.2;subst e1
   have e2:=Mi c2.1.1;subst e2
   obtain ⟨⟨hw2,m2⟩,A,n,c',hva⟩:=BM hs hy (lv c2.2) hde (zK de) c4 hw
   obtain ⟨v,w',q1,F3,θ3,q2,q3,q4⟩:=ti (ty:=ty) (c:=c) (m':=mF de) hT hw2 he hde c1 (ar _ _ _) (zK de).1 (zK de).1 (fun h=>.inl ((zK de).2 h)) c3 hnl hnr hnc
   rw[ar] at q1
   have hu:∀Y:Box,dL (upd bx b' (some (.arr (v'+1) e ((es.take hi'.toNat).drop lo.toNat) (mF de)))) [(b',Y)]=dL bx [(b',Y)]:=fun Y=>by
    funext k
    simp only[dL]
    by_cases hk:k=b'
    ·subst hk;rw[ar,ar]
    ·rw[aY _ _ hk,aY _ _ hk,aY _ _ hk]
   refine ⟨_,_,_,_,h,q1,F3,θ3,?_,?_,?_⟩
   ·have:=q2;rw[hu] at this;exact this
   ·have:=q3;rw[hu] at this;exact m2.trans this
   ·have:=q4;rw[hu] at this;exact this
  ·exact (aC h).elim
 ·exact (aC h).elim
theorem Rws.tD {d:TD} {es fs:List (List C)} {us vs:List Value} (h:Rws (cE T F w) d es us) (h':Rws (cE T F w) d fs vs) {lo:Nat} (hv:vs.length=fs.length*d.cts.length)
  (hl:lo+fs.length<=es.length) (hu:es.length*d.cts.length<=us.length):
  Rws (cE T F w) d (es.take lo++fs++es.drop (lo+fs.length)) (us.take (lo*d.cts.length)++vs++us.drop (lo*d.cts.length+vs.length)):=by
 have e1:lo*d.cts.length+vs.length<=us.length:=by
  have:=MA d.cts.length hl
  rw[Nat.add_mul] at this;omega
 refine ⟨fun i c hc=>?_,fun i c j x ct v hc hx ht hv'=>?_⟩
 ·rw[eQ hl] at hc
  split at hc
  ·exact h'.len _ _ hc
  ·exact h.len _ _ hc
 ·have hj:j<d.cts.length:=(Ml.1 ht).1
  rw[eQ hl] at hc
  rw[eQ e1] at hv'
  split at hc
  ·rename_i hi
   have a1:lo*d.cts.length<=i*d.cts.length:=MA _ hi.1
   have a2:=kK hi.2 hj
   rw[Nat.add_mul] at a2
   rw[if_pos (by omega)] at hv'
   refine h'.rel (i-lo) c j x ct v hc hx ht ?_
   rw[show (i-lo)*d.cts.length+j=i*d.cts.length+j-lo*d.cts.length from by rw[Nat.sub_mul];omega]
   exact hv'
  ·rename_i hi
   have:¬(lo*d.cts.length<=i*d.cts.length+j/\i*d.cts.length+j<lo*d.cts.length+vs.length):=by
    rintro ⟨b1,b2⟩
    apply hi
    constructor
    ·rcases Nat.lt_or_ge i lo with hlt|hge
     ·have:=kK hlt hj;omega
     ·exact hge
    ·rcases Nat.lt_or_ge i (lo+fs.length) with hlt|hge
     ·exact hlt
     ·have:=MA d.cts.length hge
      rw[Nat.add_mul] at this;omega
   rw[if_neg this] at hv'
   exact h.rel i c j x ct v hc hx ht hv'
theorem GC (hT:TOk P T) (hw:WR T fr F w bx θ) {t:TypeId} {x:V} {vx:Value} (hx:aj T F w bx θ x vx) {k:Eff->List Nat->R} {r:Out} (ty:TypeId)
  (h:wO T t x bx k=some r):Chg P T fr F w bx θ (Builtin.clear_ #[t] ty #[vx]) k r:=by
 unfold wO at h
 replace h:=kO h;obtain ⟨e,he,h⟩:=h
 replace h:=kO h;obtain ⟨de,hde,h⟩:=h
 have ht:=cC hT hde
 have hte:=fV hT he
 obtain ⟨i,z,hi,hz,hsz,hb,hzc⟩:=ht.facts
 split at h
 ·rename_i b ver lo hi'
  replace h:=kR h;obtain ⟨y,hy,h⟩:=h
  split at h
  ·rename_i v' e' es m
   replace h:=kS h;obtain ⟨h1,h⟩:=h
   simp only[ao,Mk] at h1
   have hmn:=lv h1.2
   have h1:=h1.1
   have e0:=Mi h1.2;subst e0
   obtain ⟨rfl,d,A',c',hd',h0,hlh,hhi,rfl,hcc,hblk,_⟩:=tx hx hy h1.1
   rw[hde] at hd'
   obtain rfl:=Mh hd'
   have hbox:=qL hw hy hmn
   have hmx:=zK de
   have hno:∀ {w':World} {es':List (List C)} {v:Value} {k:Nat},¬(Box.arr v' e es' (mF de)).nst T w' v k:=fun h=>zP hde (hmx.2 h.1) h.2
   obtain ⟨A,cap,us,hth,hul,hrw,hA⟩:=oN hbox hde
   rcases Int.lt_or_eq_of_le hlh with hlt|rfl
   ·obtain ⟨g,og,e2,rfl⟩:=hblk hlt
    rcases hA with ⟨rfl,rfl,rfl⟩|⟨g',o',cs,rfl,q1,q2,q3,rfl⟩
    ·simp at hhi;omega
    ·rw[hth] at e2
     simp only[ML,Mj,Addr.mk.injEq,true_and,and_true] at e2
     obtain ⟨⟨rfl,rfl⟩,e2⟩:=e2
     have hn:(hi'-lo).toNat≠0:=by omega
     have hcs:cs.toList.length=cs.size:=by simp
     have hzl:(Builtin.zeroCells (de.cts.map cd).toArray (hi'-lo).toNat).toList.length=(hi'-lo).toNat*de.cts.length:=by simp[Builtin.zeroCells]
     have hfit:o'+lo.toNat*de.cts.length+(hi'-lo).toNat*de.cts.length<=cs.size:=by
      rw[Nat.add_assoc,←Nat.add_mul,q2];exact Nat.add_le_add_left (MA _ (by omega)) o'
     have hone:∀u∈(Builtin.zeroCells (de.cts.map cd).toArray (hi'-lo).toNat).toList,u.oneCell'=true:=by
      have hm:=uz (T:=T) (F:=F) (w:=w) (d:=de) (hi'-lo).toNat ht.pos
      exact Rws.one (es:=List.replicate (hi'-lo).toNat (de.cts.map ir)) (vs:=(Builtin.zeroCells (de.cts.map cd).toArray (hi'-lo).toNat).toList)
       (by simpa [Builtin.zeroCells,madeCells] using hm) ht.pos (by rw[hzl];simp)
     have hst:=run_storeCells_at P g' (o'+lo.toNat*de.cts.length) e (Builtin.zeroCells (de.cts.map cd).toArray (hi'-lo).toNat).toList 0 cs w q1 (by rw[hzl];omega) hone
     simp only[Nat.add_zero] at hst
     have hdl:(cs.toList.drop o').length=cap*de.cts.length:=by rw[MQ,hcs];omega
     have hfull:Rws (cE T F w) de es (cs.toList.drop o'):=hrw.wM (by rw[List.take_take,Nat.min_self])
     have hm:=uz (T:=T) (F:=F) (w:=w) (d:=de) (hi'-lo).toNat ht.pos
     have hm':Rws (cE T F w) de (List.replicate (hi'-lo).toNat (de.cts.map ir)) (Builtin.zeroCells (de.cts.map cd).toArray (hi'-lo).toNat).toList:=by
      simpa [Builtin.zeroCells,madeCells] using hm
     have hsp:=hfull.tD hm' (lo:=lo.toNat) (by rw[hzl];simp) (by simp;omega) (by rw[hdl];exact MA _ q3.1)
     rw[List.length_replicate] at hsp
     obtain ⟨f1,f2,f3,f4⟩:=je w g' (cs.toList.take (o'+lo.toNat*de.cts.length)++(Builtin.zeroCells (de.cts.map cd).toArray (hi'-lo).toNat).toList++cs.toList.drop (o'+lo.toNat*de.cts.length+(Builtin.zeroCells (de.cts.map cd).toArray (hi'-lo).toNat).toList.length)).toArray
     have hlen:(es.take lo.toNat++List.replicate (hi'-lo).toNat (de.cts.map ir)++es.drop (lo.toNat+(hi'-lo).toNat)).length=es.length:=by
      simp only[MP,ME,MQ,List.length_replicate];omega
     have hput:=hw.put b (.arr v' e (es.take lo.toNat++List.replicate (hi'-lo).toNat (de.cts.map ir)++es.drop (lo.toNat+(hi'-lo).toNat)) (mF de)) (θ b)
      (w.setRow g' (cs.toList.take (o'+lo.toNat*de.cts.length)++(Builtin.zeroCells (de.cts.map cd).toArray (hi'-lo).toNat).toList++cs.toList.drop (o'+lo.toNat*de.cts.length+(Builtin.zeroCells (de.cts.map cd).toArray (hi'-lo).toNat).toList.length)).toArray)
      (fun z hz=>by
       rw[hy] at hz;obtain rfl:=Mh hz
       exact .inr ⟨rfl,⟨rfl,hlen.symm⟩,rfl,fun h=>absurd (Nat.le_of_eq (Eq.symm h)) hmx.1⟩)
      (fun q hq=>by
       by_cases hqg:q=g'
       ·subst hqg;exact .inr ⟨_,hy,rfl,by rw[hth];rfl⟩
       ·exact .inl (setRow_other w g' q _ hqg))
      (by omega) f1 f2 f3 (fun q hq=>.inr ⟨_,hy,rfl,hq⟩) (fun k=>hno) (by
       rw[hth]
       refine Ct hde (setRow_heap w g' _ _ e _ q1) fun h0=>?_
       have h2:=vT (hmx.2 h0) hsp
       rw[←iH _ _ _ _ (by omega)] at h2
       have h3:=h2.mv (w':=w.setRow g' (cs.toList.take (o'+lo.toNat*de.cts.length)++(Builtin.zeroCells (de.cts.map cd).toArray (hi'-lo).toNat).toList++cs.toList.drop (o'+lo.toNat*de.cts.length+(Builtin.zeroCells (de.cts.map cd).toArray (hi'-lo).toNat).toList.length)).toArray) fun k hk=>absurd hk (si (hmx.2 h0))
       simpa using h3)
      (fun m=>yP (o:=o') hde (by rw[ar,hth,hlen]) (setRow_heap w g' _ _ e _ q1)
       (by
         rw[List.size_toArray]
         simp only[MP,ME,MQ,hzl,hcs];omega) (by rw[hlen];exact q3) (by
        have h2:=hsp.mv m.sub m.heap
        rw[←iH _ _ _ _ (by omega)] at h2
        simpa using Rws.cr hmx.1 h2))
     refine ⟨_,_,.tuple #[],_,h,?_,F,_,hput.1,hput.2,.tu [] [] rfl fun i x v h=>by simp at h⟩
     have hne:¬(hi'-lo).toNat=0:=hn
     generalize hnn:(hi'-lo).toNat=nn at*
     cases nn with
     |zero=>exact absurd rfl hn
     |succ nn=>
      simp only[Builtin.clear_,List.getElem?_toArray,M3]
      simp[run_underlying hte,ht.yG,ht.pV,hst]
   ·have e3:(lo-lo).toNat=0:=by omega
    have e4:es.take lo.toNat++List.replicate (lo-lo).toNat (de.cts.map ir)++es.drop (lo.toNat+(lo-lo).toNat)=es:=by
     rw[e3];simp
    rw[e4] at h
    have hput:=hw.put b (.arr v' e es (mF de)) (θ b) w (fun z hz=>by rw[hy] at hz;obtain rfl:=Mh hz;exact .inr ⟨rfl,⟨rfl,rfl⟩,rfl,fun h=>absurd (Nat.le_of_eq (Eq.symm h)) hmx.1⟩) (fun q hq=>.inl rfl) (Mp _) rfl rfl ⟨rfl,Mp _⟩
     (fun q hq=>.inr ⟨_,hy,rfl,hq⟩) (fun k=>hno) (fun h0=>(wo hbox hde (hmx.2 h0)).toM) (fun m=>by
      have:iZ T F w bx θ b (.arr v' e es (mF de)):=hbox.mode hmx.1
      obtain ⟨d,A,cap,r1,r2,r3,r4⟩:=this
      exact ⟨d,A,cap,r1,by rw[ar];exact r2,r3,r4⟩)
    refine ⟨_,_,.tuple #[],w,h,?_,F,_,hput.1,hput.2,.tu [] [] rfl fun i x v h=>by simp at h⟩
    rw[e3]
    cases A'<;>simp[Builtin.clear_,run_underlying hte]
  ·exact (aC h).elim
 ·exact (aC h).elim
theorem Bp:∀(ns:List Int) (l:List UInt8),ns.foldl (fun (r:ByteArray) n=>r.push (UInt8.ofNat n.toNat)) ⟨l.toArray⟩=⟨(l++ns.map fun n=>UInt8.ofNat n.toNat).toArray⟩
 |[],l=>by simp
 |n::r,l=>by
  have:(⟨l.toArray⟩:ByteArray).push (UInt8.ofNat n.toNat)=⟨(l++[UInt8.ofNat n.toNat]).toArray⟩:=by simp[ByteArray.push]
  simp only[List.foldl_cons,this,Bp r,MD,M0,List.cons_append,List.nil_append]
theorem HT (hT:TOk P T) (hw:WR T fr F w bx θ) {s d:TypeId} {x:V} {v:Value} (hx:aj T F w bx θ x v) {k:Eff->List Nat->R} {r:Out}
  (h:FG T s d x bx k=some r):Reads P T F w bx θ (convert s d v) k r:=by
 unfold FG at h
 cases hstr:isStr T d with
 |false=>rw[hstr,aX] at h;exact Da hT hx h
 |true=>
   rw[hstr,ai] at h
   have hu:=uy hT hstr
   replace h:=kO h;obtain ⟨e,he,h⟩:=h
   replace h:=kO h;obtain ⟨de,hde,h⟩:=h
   replace h:=kS h;obtain ⟨c1,h⟩:=h
   rw[bnd] at h;obtain ⟨src,rd,h_,hsrc⟩:=ri hT hw hde hx h;clear h;have h:=h_;clear h_
   rw[dW] at h
   have ht:=cC hT hde
   have hdv:de.dv=.int .u8:=by
    unfold Lw at c1
    split at c1
    ·assumption
    ·simp at c1
   have hcts:de.cts=[.int .u8]:=by have:=ht.leaf;rw[hdv] at this;exact this
   obtain ⟨u2,hu2,hv2⟩:=ht.desc
   rw[hdv] at hv2
   cases u2<;>simp[eo] at hv2
   subst hv2
   obtain ⟨A,c,news,rfl,hnl,hnr,hnc⟩:=hsrc
   simp only[hcts,List.length_singleton,Nat.mul_one] at hnl
   have hns:news=(src.map fun r=>(r.getD 0 .nil).I).map (Value.int .u8):=by
    apply List.ext_getElem?
    intro i
    rw[List.map_map,No]
    by_cases hi:i<src.length
    ·have h1:src[i]?=some src[i]:=Mg hi
     have h2:news[i]?=some (news[i]'(by omega)):=Mg _
     have hl:=hnr.len i _ h1
     have h3:src[i][0]?=some (src[i].getD 0 .nil):=by
      rw[Mm,Mg (by rw[hl,hcts];exact Nat.one_pos)];rfl
     have hr:=hnr.rel i _ 0 _ (.int .u8) (news[i]'(by omega)) h1 h3 (by rw[hcts];rfl) (by rw[hcts,List.length_singleton,Nat.mul_one,Nat.add_zero];exact h2)
     rw[h1,h2]
     simp only[Nn,Function.comp]
     generalize src[i].getD 0 C.nil=c0 at hr⊢
     generalize news[i]'(by omega)=v0 at hr⊢
     cases hr with
     |int _ n=>rfl
    ·rw[M7 (by omega),M7 (by omega)];rfl
   have hrun:∀a,(∀j u,news[j]?=some u->w.cell? (a.add j)=some u)->(Conv.bytesToString (.slice (some a) src.length c)).run P w=.ok (.string (lJ src)) w:=by
    intro a hcell
    have hlc:=run_loadCells_list (P:=P) w a news hcell
    rw[hnl] at hlc
    rw[run_bytesToString (P:=P) w a src.length c (src.map fun r=>(r.getD 0 .nil).I) (by rw[hlc,hns])]
    have:=Bp (src.map fun r=>(r.getD 0 .nil).I) []
    simp only[List.nil_append] at this
    rw[show ByteArray.empty=⟨([]:List UInt8).toArray⟩ from rfl,this,List.map_map]
    rfl
   refine ⟨_,_,.string (lJ src),h,?_,.c _ _ _ (.str _)⟩
   rw[run_convert_bytes_string w s d e A src.length c (fV hT he) hu2 hu]
   rcases hnc with rfl|⟨a,rfl,hcell⟩
   ·cases A with
    |none=>rfl
    |some a=>exact hrun a (fun j u h=>by rw[List.length_eq_zero_iff.1 hnl] at h;simp at h)
   ·exact hrun a hcell
end
end Go.Ev
namespace Go.Ev
section
variable {P:Program} {T:Tys} {fr:Fr} {F:Nat->Prop} {w:World} {bx:Bxs} {θ:Nat->Value}
theorem FH {t:TypeId} {es:List (List C)} {n off:Nat} {row:List C} {c':C} {v:Value} {i j:Nat} {ct:CT} {c:C} {u:Value} (hn:es[n]?=some row) (ho:off<row.length) (h:cM T w t (es.set n (aB (es.getD n []) off [c'])) v i j ct c u):
  (i=n/\j=off/\c=c')∨(¬(i=n/\j=off)/\cM T w t es v i j ct c u):=by
 obtain ⟨d,g,o,m,cap,cs,h1,rfl,h3,h4,h5,h6⟩:=h
 have hg:es.getD n []=row:=by rw[Mm,hn];rfl
 rw[hg,M9] at h3
 by_cases hi:n=i
 ·subst hi
  rw[if_pos rfl] at h3
  split at h3
  ·obtain rfl:=Mh h3
   unfold aB at h4
   rw[eQ (by simp;omega)] at h4
   split at h4
   ·rename_i hj
    have hj0:j=off:=by have:=hj.2;simp at this;omega
    subst hj0
    simp at h4
    exact .inl ⟨rfl,rfl,h4.symm⟩
   ·rename_i hj
    refine .inr ⟨fun h=>hj ⟨by omega,by simp;omega⟩,d,g,o,m,cap,row,h1,rfl,hn,h4,h5,h6⟩
  ·simp at h3
 ·rw[if_neg hi] at h3
  exact .inr ⟨fun h=>hi h.1.symm,d,g,o,m,cap,cs,h1,rfl,h3,h4,h5,h6⟩
theorem Cy (θ:Nat->Value) (b:Nat):upd θ b (θ b)=θ:=by
 funext k
 by_cases h:k=b
 ·subst h;exact ar _ _ _
 ·exact aY _ _ h
theorem Ia {e:TypeId} {de:TD} {es:List (List C)} {v:Value} {k:Nat} (hd:bj T e=some de) (hf:bF de.cts=true) (h:InT T w (.sl e) (.l es) v k):bJ v=some k:=by
 cases h with
 |root=>rfl
 |sub _ _ _ i j ct c u _ h hk=>
  obtain ⟨d,g,o,n,cap,cs,h1,_,_,_,h5,_⟩:=h
  rw[hd] at h1;obtain rfl:=Mh h1
  have:=cH hf _ _ h5
  rw[nw hk] at this;simp at this
theorem Cr {e:TypeId} {v:Value} {k:Nat} (h:InT T w (.sl e) .nil v k):False:=by cases h
theorem JO (hw:WR T fr F w bx θ) {b d ver off:Nat} {ix:Int} {e te:TypeId} {v:Value} {es:List (List C)} {dn:TD} (hx:aj T F w bx θ (.rf b ver ix off e) v) (hy:bx b=some (.arr ver te es 2)) (hdn:bj T e=some dn) (hfl:bF dn.cts=true) (hbd:b≠d):
  WR T fr F w (upd (upd bx b (some (.arr ver te (es.set ix.toNat (aB (es.getD ix.toNat []) off [.nil])) 3))) d (some (.arr (fY bx d) e ((es.getD ix.toNat []).getD off .nil).L 1))) (upd θ d v)/\
  Mv F w bx θ F w (upd (upd bx b (some (.arr ver te (es.set ix.toNat (aB (es.getD ix.toNat []) off [.nil])) 3))) d (some (.arr (fY bx d) e ((es.getD ix.toNat []).getD off .nil).L 1))) (upd θ d v):=by
 obtain ⟨_,db,g,o,cap,row,c0,hd,h0,hix,hes,hc0,hth,hoff,hcell,hrow,hgd,hat,hrel⟩:=IL hw hx hy (Nat.beq_refl _)
 have hlin:qu T w te es (θ b):=(hw.lin b _ hy (by decide)).1 (by decide)
 have hro:off<row.length:=(Ml.1 hc0).1
 have hbk:∀i j ct c u,cM T w te (es.set ix.toNat (aB (es.getD ix.toNat []) off [.nil])) (θ b) i j ct c u->(i=ix.toNat/\j=off/\c=.nil/\ct=.sl e)∨(¬(i=ix.toNat/\j=off)/\cM T w te es (θ b) i j ct c u):=fun i j ct c u h=>by
  rcases FH hes hro h with ⟨rfl,rfl,rfl⟩|h1
  ·refine .inl ⟨rfl,rfl,rfl,?_⟩
   obtain ⟨d',g',o',m',cap',rw',p1,p2,p3,p4,p5,p6⟩:=h
   rw[hd] at p1;obtain rfl:=Mh p1
   rw[hoff] at p5
   exact (Mh p5).symm
  ·exact .inr h1
 have hns:∀k,(Box.arr ver te (es.set ix.toNat (aB (es.getD ix.toNat []) off [.nil])) 3).nst T w (θ b) k->(Box.arr ver te es 2).nst T w (θ b) k/\¬InT T w (.sl e) c0 v k:=by
  rintro k ⟨_,i,j,ct,c,u,h1,h2⟩
  rcases hbk _ _ _ _ _ h1 with ⟨_,_,rfl,rfl⟩|⟨hne,h1⟩
  ·exact (Cr h2).elim
  ·exact ⟨⟨by decide,i,j,ct,c,u,h1,h2⟩,fun hk=>hne (hlin.dj _ _ _ _ _ _ _ _ _ _ k h1 hat h2 hk)⟩
 have hput:=hw.Hq b (.arr ver te (es.set ix.toNat (aB (es.getD ix.toNat []) off [.nil])) 3) (θ b) w
  (fun z hz=>by rw[hy] at hz;obtain rfl:=Mh hz;exact .inr ⟨rfl,⟨rfl,by simp⟩,rfl,fun h=>absurd h (by simp[Box.m])⟩)
  (fun q _=>.inl rfl) (Mp _) rfl rfl ⟨rfl,Mp _⟩ (fun q hq=>.inr ⟨_,hy,rfl,hq⟩)
  (fun k hk=>by
   obtain ⟨h1,_⟩:=hns k hk
   obtain ⟨_,o2,_,_,_⟩:=hw.own b _ k hy h1
   exact ⟨fun _=>o2 (Mp 2),fun h=>absurd (show 2<=3 by decide) h,xU hw hy h1⟩)
  (fun _=>⟨fun h=>absurd rfl h,fun _=>⟨fun i j ct c u h=>by
    rcases hbk _ _ _ _ _ h with ⟨_,_,rfl,rfl⟩|⟨_,h1⟩
    ·exact .inr trivial
    ·exact .inl (hlin.rel _ _ _ _ _ h1),fun i j ct c u i' j' ct' c' u' k h1 h2 h3 h4=>by
    rcases hbk _ _ _ _ _ h1 with ⟨_,_,rfl,rfl⟩|⟨_,a1⟩
    ·exact (Cr h3).elim
    ·rcases hbk _ _ _ _ _ h2 with ⟨_,_,rfl,rfl⟩|⟨_,a2⟩
     ·exact (Cr h4).elim
     ·exact hlin.dj _ _ _ _ _ _ _ _ _ _ k a1 a2 h3 h4⟩⟩)
  (fun _=>by
   obtain ⟨d2,A,cap2,hd2,hth2,hrl,hA⟩:=hw.box b _ hy
   rw[hd] at hd2;obtain rfl:=Mh hd2
   rcases hA with ⟨rfl,rfl,rfl⟩|⟨g',o',cs,rfl,hg,hsz,hcap,hrr⟩
   ·simp at hix
   refine ⟨db,_,cap2,hd,by rw[ar,hth2];simp,fun i c hc=>?_,.inr ⟨g',o',cs,rfl,hg,hsz,by simpa using hcap,fun i c j x ct u a1 a2 a3 a4=>?_⟩⟩
   ·rw[M9] at hc
    by_cases hi:ix.toNat=i
    ·rw[if_pos hi,if_pos (by omega)] at hc
     obtain rfl:=Mh hc
     have:es.getD ix.toNat []=row:=by rw[Mm,hes];rfl
     rw[this]
     unfold aB
     rw[eC (by simp;omega)];exact hrow
    ·rw[if_neg hi] at hc
     exact hrl _ _ hc
   ·have hca:cM T w te (es.set ix.toNat (aB (es.getD ix.toNat []) off [.nil])) (θ b) i j ct x u:=by
     rw[hth2]
     exact (dE hd hg).2 ⟨c,a1,a2,a3,by rw[MB];simpa using a4⟩
    rcases hbk _ _ _ _ _ hca with ⟨_,_,rfl,rfl⟩|⟨_,h1⟩
    ·exact .inr trivial
    ·exact .inl (hlin.rel _ _ _ _ _ h1))
 rw[Cy] at hput
 obtain ⟨hw1,m1⟩:=hput
 rw[hgd]
 have hblk:∀k,bJ v=some k->InT T w (.sl e) c0 v k/\(Box.arr ver te es 2).nst T w (θ b) k:=fun k hk=>by
  have:InT T w (.sl e) c0 v k:=by
   cases hrel with
   |base _ _ _ _ hs=>rw[hs e rfl] at hk;simp[bJ] at hk
   |sl=>simp only[bJ,Mj] at hk;subst hk;exact .root _ _ _ _ _ _
  exact ⟨this,by decide,_,_,_,_,_,hat,this⟩
 generalize hb1:upd bx b (some (.arr ver te (es.set ix.toNat (aB (es.getD ix.toNat []) off [.nil])) 3))=bx1 at*
 have hget:∀c z,bx1 c=some z->(c=b/\z=.arr ver te (es.set ix.toNat (aB (es.getD ix.toNat []) off [.nil])) 3)∨(c≠b/\bx c=some z):=by
  intro c z hz
  rw[←hb1] at hz
  by_cases hc:c=b
  ·subst hc;rw[ar] at hz;exact .inl ⟨rfl,(Mh hz).symm⟩
  ·rw[aY _ _ hc] at hz;exact .inr ⟨hc,hz⟩
 have hfree:∀k,bJ v=some k->¬F k/\k<w.heap.size/\(fr.w0.heap.size<=k∨fr.wr k)/\(∀c z,bx1 c=some z->z.live=true->bJ (θ c)≠some k)/\∀c z,bx1 c=some z->¬z.nst T w (θ c) k:=fun k hk=>by
  obtain ⟨h1,h2⟩:=hblk k hk
  obtain ⟨o1,o2,_,o4,o5⟩:=hw.own b _ k hy h2
  have hF:=o2 (Mp 2)
  refine ⟨hF,o1,?_,fun c z hz hl hg=>?_,fun c z hz hn=>?_⟩
  ·rcases o4 with h|h|h
   ·exact .inl h
   ·exact .inr h
   ·exact absurd (hw.nlF k h) hF
  ·rcases hget c z hz with ⟨rfl,rfl⟩|⟨_,hz⟩
   ·exact o5 _ _ hy rfl hg
   ·exact o5 _ _ hz hl hg
  ·rcases hget c z hz with ⟨rfl,rfl⟩|⟨hne,hz⟩
   ·exact (hns k hn).2 h1
   ·exact hne (hw.odj c b z _ k hz hy hn h2)
 have hd1:∀z,bx1 d=some z->z.ver<fY bx d:=fun z hz=>by
  rcases hget d z hz with ⟨e1,_⟩|⟨_,hz⟩
  ·exact absurd e1.symm hbd
  ·exact ph hz
 have hbox:∀(F:Nat->Prop) (bx:Bxs) (θ:Nat->Value),θ d=v->iZ T F w bx θ d (.arr (fY bx1 d) e c0.L 1):=fun F bx θ hθ=>by
  cases hrel with
  |base _ _ _ hb hs=>
   obtain hv:=hs e rfl
   have hL:c0.L=[]:=by
    rw[hv] at hb
    generalize hv':Value.slice none 0 0=v' at hb
    cases hb with
    |sl0=>rfl
    |sl _ _ _ _ _ _ _ _ hF=>exact hF.elim
   rw[hL]
   exact ⟨dn,none,0,hdn,hθ.trans hv,fun i c h=>by simp at h,.inl ⟨rfl,rfl,rfl⟩⟩
  |sl _ d' es' g' o' cap' arr hd' hg' hs' hc' hlen' hr' hn' hj'=>
   rw[hdn] at hd';obtain rfl:=Mh hd'
   refine ⟨dn,_,cap',hdn,hθ,hlen',.inr ⟨g',o',arr,rfl,hg',hs',hc',fun i c j x ct u a1 a2 a3 a4=>?_⟩⟩
   have:=hr' i j ct x u ((dE hdn hg').2 ⟨c,a1,a2,a3,by rw[MB];simpa using a4⟩)
   show cE T F w ct x u
   have hfc:=cH hfl _ _ a3
   cases this with
   |base _ _ _ h _=>exact h.flat hfc
   |sl=>simp[CT.flat] at hfc
 have hbox:∀(F:Nat->Prop) (bx':Bxs) (θ:Nat->Value),θ d=v->iZ T F w bx' θ d (.arr (fY bx d) e c0.L 1):=fun F bx' θ hθ=>hbox F bx' θ hθ
 have mv:Mv F w bx1 θ F w (upd bx1 d (some (.arr (fY bx d) e c0.L 1))) (upd θ d v):=by
  refine ⟨fun _ h=>h,fun _ _=>rfl,fun c z hz=>?_⟩
  by_cases hc:c=d
  ·subst hc
   have:=hd1 z hz
   exact ⟨_,ar _ _ _,Nat.le_of_lt this,fun h=>absurd h (Nat.ne_of_lt this)⟩
  ·exact ⟨z,by rw[aY _ _ hc];exact hz,Mp _,fun _=>⟨z.kI,aY _ _ hc,fun h=>⟨h,fun _ _ _ _ _ _ _ _ _ h=>h⟩⟩⟩
 have hflat:∀ {v' k},¬(Box.arr (fY bx d) e c0.L 1).nst T w v' k:=fun h=>by
  obtain ⟨_,i,j,ct,c,u,h1,h2⟩:=h
  obtain ⟨d',_,_,_,_,_,p1,_,_,_,p5,_⟩:=h1
  rw[hdn] at p1;obtain rfl:=Mh p1
  have:=cH hfl _ _ p5
  rw[nw h2] at this;simp at this
 have hget2:∀c z,upd bx1 d (some (.arr (fY bx d) e c0.L 1)) c=some z->(c=d/\z=.arr (fY bx d) e c0.L 1)∨(c≠d/\bx1 c=some z):=by
  intro c z hz
  by_cases hc:c=d
  ·subst hc;rw[ar] at hz;exact .inl ⟨rfl,(Mh hz).symm⟩
  ·rw[aY _ _ hc] at hz;exact .inr ⟨hc,hz⟩
 refine ⟨⟨?_,?_,?_,hw1.lt,hw1.keep,hw1.sub,hw1.new,sw hw1.stay mv,?_,?_,?_,hw1.nlF⟩,m1.trans mv⟩
 ·intro c z hz
  rcases hget2 c z hz with ⟨rfl,rfl⟩|⟨hne,hz⟩
  ·exact hbox _ _ _ (ar _ _ _)
  ·exact (hw1.box c z hz).mv mv (aY _ _ hne) (fun _ _=>rfl) fun _ _=>rfl
 ·intro c c' z z' k hz hz' hl hl' hk hk'
  rcases hget2 c z hz with ⟨e1,e2⟩|⟨hne,hz1⟩<;>rcases hget2 c' z' hz' with ⟨e3,e4⟩|⟨hne',hz2⟩
  ·rw[e1,e3]
  ·rw[e1,ar] at hk;rw[aY _ _ hne'] at hk'
   exact absurd hk' ((hfree k hk).2.2.2.1 c' z' hz2 hl')
  ·rw[e3,ar] at hk';rw[aY _ _ hne] at hk
   exact absurd hk ((hfree k hk').2.2.2.1 c z hz1 hl)
  ·rw[aY _ _ hne] at hk;rw[aY _ _ hne'] at hk'
   exact hw1.disj c c' z z' k hz1 hz2 hl hl' hk hk'
 ·intro c z k hz hl hk
  rcases hget2 c z hz with ⟨rfl,rfl⟩|⟨hne,hz⟩
  ·rw[ar] at hk
   obtain ⟨a1,a2,a3,_⟩:=hfree k hk
   exact ⟨a1,a2,a3⟩
  ·rw[aY _ _ hne] at hk
   exact hw1.out c z k hz hl hk
 ·intro c z hz
  rcases hget2 c z hz with ⟨rfl,rfl⟩|⟨hne,hz⟩
  ·exact fun _=>(wo (bx:=bx1) (ver:=fY bx c) (hbox F bx1 (upd θ c v) (ar _ _ _)) hdn hfl).toM
  ·rw[aY _ _ hne];exact hw1.lin c z hz
 ·intro c z k hz hk
  rcases hget2 c z hz with ⟨rfl,rfl⟩|⟨hne,hz⟩
  ·exact absurd hk hflat
  ·rw[aY _ _ hne] at hk
   obtain ⟨q1,q2,q3,q4,q5⟩:=hw1.own c z k hz hk
   refine ⟨q1,q2,q3,q4,fun c' z' hz' hl' hg'=>?_⟩
   rcases hget2 c' z' hz' with ⟨e1,e2⟩|⟨hne',hz'⟩
   ·rw[e1,ar] at hg'
    exact (hfree k hg').2.2.2.2 c z hz hk
   ·rw[aY _ _ hne'] at hg'
    exact q5 c' z' hz' hl' hg'
 ·intro c c' z z' k hz hz' hk hk'
  rcases hget2 c z hz with ⟨rfl,rfl⟩|⟨hne,hz⟩
  ·exact absurd hk hflat
  rcases hget2 c' z' hz' with ⟨rfl,rfl⟩|⟨hne',hz'⟩
  ·exact absurd hk' hflat
  rw[aY _ _ hne] at hk;rw[aY _ _ hne'] at hk'
  exact hw1.odj c c' z z' k hz hz' hk hk'
theorem L8 (f:Bxs) (d:Nat) (x y:Option Box):upd (upd f d x) d y=upd f d y:=by
 funext k
 by_cases h:k=d
 ·subst h;rw[ar,ar]
 ·rw[aY _ _ h,aY _ _ h,aY _ _ h]
theorem EC {X:Cx} (hT:TOk P X.T) (hw:WR X.T fr F w bx θ) {t:TypeId} {d b ver off:Nat} {ix:Int} {e0:TypeId} {x:V} {vs vx:Value} (hs:aj X.T F w bx θ (.rf b ver ix off e0) vs) (hx:aj X.T F w bx θ x vx) {k:Eff->List Nat->R} {r:Out} (ty:TypeId)
  (h:xI X t d b ver ix off e0 x bx k=some r):Chg P X.T fr F w bx θ (Builtin.append_ #[t,t] ty #[vs,vx]) k r:=by
 unfold xI at h
 replace h:=kO h;obtain ⟨e,he,h⟩:=h
 replace h:=kO h;obtain ⟨de,hde,h⟩:=h
 replace h:=kS h;obtain ⟨c1,h⟩:=h
 rw[bnd] at h;obtain ⟨src,rd,h_,hsrc,hsr2⟩:=tZ hT hw hde hx h;clear h;have h:=h_;clear h_
 have c1:=MJ c1
 obtain ⟨B,c,news,rfl,hnl,hnr,hnc⟩:=hsrc
 replace h:=kR h;obtain ⟨y,hy,h⟩:=h
 split at h
 ·rename_i v te es m
  replace h:=kS h;obtain ⟨c2,h⟩:=h
  replace h:=kC h;obtain ⟨c3,h⟩:=h
  rw[bnd,lp] at h
  simp only[ao,cX,Mk,MM,Ms] at c2 c3
  obtain ⟨⟨a1,a2⟩,⟨a3,a4⟩,a5⟩:=c2
  obtain rfl:=Mi a1
  obtain rfl:=Mi a2
  obtain rfl:=Mi a3
  have hbd:b≠d:=by rintro rfl;rw[Nat.beq_refl] at a5;simp at a5
  obtain ⟨hw1,m1⟩:=JO hw hs hy hde a4 hbd
  obtain ⟨v',w',q1,F',θ',q2,q3,q4⟩:=ti (ty:=ty) (c:=c) (m':=1) hT hw1 he hde c1 (ar _ _ _) (by decide) (by decide) (fun _=>.inl a4) c3 hnl hnr hnc
  rw[ar] at q1
  have hu:∀Y H Z:Box,dL (upd (upd bx b (some H)) d (some Z)) [(d,Y)]=dL bx [(b,H),(d,Y)]:=fun Y H Z=>L8 _ _ _ _
  rw[hu] at q2 q3 q4
  exact ⟨_,_,_,_,h,q1,F',θ',q2,m1.trans q3,q4⟩
 ·exact (aC h).elim
theorem zu:∀ {ts:List CT} {cs:List C},rQ ts cs=true->∀(j:Nat) (c:C) (ct:CT),cs[j]?=some c->ts[j]?=some ct->¬Ek ct c
 |[],_,_,j,c,ct,_,h=>by simp at h
 |_::_,[],_,j,c,ct,h,_=>by simp at h
 |t::ts,x::cs,hn,j,c,ct,hc,ht=>by
  have hr:rQ ts cs=true/\¬Ek t x:=by
   cases t with
   |sl e=>cases x<;>first|exact ⟨hn,fun h=>h⟩|exact absurd hn (by simp[rQ])
   |_=>exact ⟨hn,fun h=>h⟩
  cases j with
  |zero=>simp at hc ht;subst hc;subst ht;exact hr.2
  |succ j=>exact zu hr.1 j c ct (by simpa using hc) (by simpa using ht)
theorem EZ (hT:TOk P T) (hw:WR T fr F w bx θ) {t:TypeId} {b2 v2 b ver off:Nat} {ix:Int} {nb:Bool} {v va:Value} (hx:aj T F w bx θ (.ow b2 v2) v) (ha:aj T F w bx θ (.pe b ver ix off nb) va)
  {k:Eff->List Nat->R} {r:Out} (h:xT T t b2 v2 b ver ix off nb bx k=some r):ub P T fr F w bx θ (Instr.storeAt t va v) k r:=by
 unfold xT at h
 replace h:=kO h;obtain ⟨d,hd,h⟩:=h
 replace h:=kO h;obtain ⟨e,hdc,h⟩:=h
 replace h:=kO h;obtain ⟨dn,hdn,h⟩:=h
 replace h:=kR h;obtain ⟨y,hy,h⟩:=h
 have ht:=cC hT hd
 split at h
 ·rename_i v' te es m
  replace h:=kO h;obtain ⟨de,hde,h⟩:=h
  replace h:=kR h;obtain ⟨y2,hy2,h⟩:=h
  split at h
  ·rename_i v2' e2 rows m2
   replace h:=kS h;obtain ⟨c1,h⟩:=h
   replace h:=kS h;obtain ⟨c2,h⟩:=h
   replace h:=kS h;obtain ⟨c3,h⟩:=h
   replace h:=kC h;obtain ⟨c4,h⟩:=h
   replace h:=kC h;obtain ⟨c5,h⟩:=h
   simp only[ao,kN,cX,Mk,MX,MM] at c1 c2
   obtain ⟨⟨a1,a2⟩,a3,a4,a5⟩:=c1
   obtain ⟨hfl,hag,hbb⟩:=c2
   obtain rfl:=Mi a4
   obtain rfl:=Mi a5
   have hm:m=2∨m=3:=a3.imp Mi Mi
   have hm2:2<=m:=by rcases hm with rfl|rfl<;>decide
   have hm0:m≠0:=by rintro rfl;simp at hm2
   have hbd:b≠b2:=by rintro rfl;rw[Nat.beq_refl] at hbb;simp at hbb
   have hdl:d.cts=[.sl e]:=by
    unfold K3 at hdc
    split at hdc
    ·rename_i e' he;rw[he];rw[Mh hdc]
    ·simp at hdc
   have hoff:de.cts[off]?=some (.sl e):=by
    rw[nU] at c3
    cases hn:de.cts[off]? with
    |none=>rw[hn] at c3;simp at c3
    |some ct=>rw[hn] at c3;rw[gI c3]
   have hoff':off<de.cts.length:=(Ml.1 hoff).1
   obtain ⟨rfl,rfl⟩:=oC hx hy2 a2
   obtain ⟨rfl,d',hd',hpe⟩:=s9 ha hy a1
   rw[hde] at hd';obtain rfl:=Mh hd'
   obtain ⟨d2,A,cap,hd2,hth,hlen,hA⟩:=hw.box b _ hy
   rw[hde] at hd2;obtain rfl:=Mh hd2
   rcases hpe with ⟨hnb,hneg,rfl⟩|⟨h0,hlt',g0,og,cap',e1,rfl⟩
   ·rw[hnb] at c4
    simp only[ai,Ms] at c4
    omega
   rcases hA with ⟨rfl,rfl,rfl⟩|⟨g,o,cs,rfl,q1,q2,q3,q4⟩
   ·simp at hlt';omega
   rw[hth] at e1
   simp only[ML,Mj,Addr.mk.injEq,true_and,and_true] at e1
   obtain ⟨⟨rfl,rfl⟩,rfl⟩:=e1
   have hn:ix.toNat<es.length:=by omega
   have hfit:o+(ix.toNat*de.cts.length+de.cts.length)<=cs.size:=by
    have:=MA de.cts.length (show ix.toNat+1<=cap from by omega)
    rw[Nat.succ_mul] at this
    omega
   obtain ⟨d3,A2,cap2,_,hth2,_,_⟩:=hw.box b2 _ hy2
   have hvc:(θ b2).cells= #[θ b2]/\(θ b2).oneCell'=true:=by rw[hth2];exact ⟨rfl,rfl⟩
   have hcells:(θ b2).cells.toList=[θ b2]:=by rw[hvc.1]
   have hrun:=ht.pE (off:=o+(ix.toNat*de.cts.length+off)) q1 (v:=θ b2) (by rw[hvc.1,hdl];rfl) (by rw[hcells];intro u hu;rw[MH.1 hu];exact hvc.2) (by rw[hdl];simp;omega)
   rw[hcells] at hrun
   generalize hes':es.set ix.toNat (aB (es.getD ix.toNat []) off [.l rows])=es' at*
   have hrel0:∀i j ct c u,cM T w te es (θ b) i j ct c u->ji T w ct c u∨Ek ct c:=by
    rcases hm with rfl|rfl
    ·exact fun i j ct c u h=>.inl (((hw.lin b _ hy (by decide)).1 (by decide)).rel _ _ _ _ _ h)
    ·exact ((hw.lin b _ hy (by decide)).2 rfl).rel
   have hdj0:HX T w te es (θ b):=by
    rcases hm with rfl|rfl
    ·exact ((hw.lin b _ hy (by decide)).1 (by decide)).dj
    ·exact ((hw.lin b _ hy (by decide)).2 rfl).dj
   have hown:∀q,Nst T w te es (θ b) q->q<w.heap.size/\¬F q/\(∀b' x',bx b'=some x'->x'.live=true->bJ (θ b')≠some q):=fun q hq=>by
    obtain ⟨o1,o2,_,_,o5⟩:=hw.own b _ q hy ⟨hm0,hq⟩
    exact ⟨o1,o2 hm2,o5⟩
   obtain ⟨l1,_⟩:=iX hw hy2
   have l2:∀q,InT T w (.sl e) (.l rows) (θ b2) q->bJ (θ b2)=some q:=fun q hq=>Ia hdn hfl hq
   have hcsl:cs.toList.length=cs.size:=by simp
   obtain ⟨f1,f2,f3,f4⟩:=je w g (cs.toList.take (o+(ix.toNat*de.cts.length+off))++[θ b2]++cs.toList.drop (o+(ix.toNat*de.cts.length+off)+[θ b2].length)).toArray
   have hrow:=setRow_heap w g cs (cs.toList.take (o+(ix.toNat*de.cts.length+off))++[θ b2]++cs.toList.drop (o+(ix.toNat*de.cts.length+off)+[θ b2].length)).toArray te _ q1
   have hoth:=fun k hk=>setRow_other w g k (cs.toList.take (o+(ix.toNat*de.cts.length+off))++[θ b2]++cs.toList.drop (o+(ix.toNat*de.cts.length+off)+[θ b2].length)).toArray hk
   have hdr:(cs.toList.take (o+(ix.toNat*de.cts.length+off))++[θ b2]++cs.toList.drop (o+(ix.toNat*de.cts.length+off)+[θ b2].length)).toArray.toList.drop o=(cs.toList.drop o).take (ix.toNat*de.cts.length+off)++[θ b2]++(cs.toList.drop o).drop (ix.toNat*de.cts.length+off+[θ b2].length):=iH _ _ _ _ (by omega)
   have hsz':(cs.toList.take (o+(ix.toNat*de.cts.length+off))++[θ b2]++cs.toList.drop (o+(ix.toNat*de.cts.length+off)+[θ b2].length)).toArray.size=cs.size:=by
    rw[List.size_toArray,eC (by simp;omega)];simp
   generalize hcs':(cs.toList.take (o+(ix.toNat*de.cts.length+off))++[θ b2]++cs.toList.drop (o+(ix.toNat*de.cts.length+off)+[θ b2].length)).toArray=cs' at*
   generalize hww:w.setRow g cs'=w' at*
   have hdl3:(cs.toList.drop o).length=cap*de.cts.length:=by rw[MQ,hcsl];omega
   have hbk:∀i j ct c u,cM T w' te es' (θ b) i j ct c u->(i=ix.toNat/\j=off/\c=.l rows/\ct=.sl e/\u=θ b2)∨(¬(i=ix.toNat/\j=off)/\cM T w te es (θ b) i j ct c u):=fun i j ct c u h=>by
    have hca:=h
    rw[hth] at hca
    have hat:=(dE hde hrow).1 hca
    rw[hdr,←hes'] at hat
    rcases uw hlen (by rw[hdl3];exact MA _ q3.1) hn (by simp) (by simp;omega) hat with ⟨h1,h2,h3,h4,h5,h6⟩|⟨h1,h2⟩
    ·have hj:j=off:=by simp at h3;omega
     subst hj
     rw[Nat.sub_self] at h4 h5 h6
     rw[Nat.add_zero,hoff] at h4
     simp at h5 h6
     exact .inl ⟨h1,rfl,h5.symm,(Mh h4).symm,h6.symm⟩
    ·refine .inr ⟨fun h=>h2 ⟨h.1,by omega,by simp;omega⟩,?_⟩
     rw[hth]
     exact (dE hde q1).2 h1
   have hgr:∀q,Nst T w te es (θ b) q->q≠g:=fun q hq e=>(hown q hq).2.2 b _ hy rfl (by rw[hth,e];rfl)
   have hg2:∀q,bJ (θ b2)=some q->q≠g:=fun q hq e=>hbd (hw.disj b b2 _ _ g hy hy2 rfl rfl (by rw[hth];rfl) (by rw[hq,e]))
   have hInT:∀i j ct c u,cM T w te es (θ b) i j ct c u->∀q,(InT T w ct c u q->w'.heap[q]?=w.heap[q]?):=fun i j ct c u h q hq=>hoth q (hgr q ⟨_,_,_,_,_,h,hq⟩)
   have hInT2:∀q,InT T w' (.sl e) (.l rows) (θ b2) q->InT T w (.sl e) (.l rows) (θ b2) q:=fun q hq=>hq.mv' fun q hq=>hoth q (hg2 q (l2 q hq))
   have hrel:∀i j ct c u,cM T w' te es' (θ b) i j ct c u->ji T w' ct c u:=fun i j ct c u h=>by
    rcases hbk _ _ _ _ _ h with ⟨_,_,rfl,rfl,rfl⟩|⟨_,h1⟩
    ·exact l1.mv fun q hq=>hoth q (hg2 q (l2 q hq))
    ·rcases hrel0 _ _ _ _ _ h1 with h2|h2
     ·exact h2.mv fun q hq=>hInT _ _ _ _ _ h1 q hq
     ·exfalso
      obtain ⟨_,_,_,_,_,row,p1,_,p3,p4,p5,_⟩:=h
      rw[hde] at p1;obtain rfl:=Mh p1
      exact zu (Ni.1 c5 row (M8 p3)) j c ct p4 p5 h2
   have hdj:HX T w' te es' (θ b):=by
    intro i j ct c u i' j' ct' c' u' q h1 h2 h3 h4
    rcases hbk _ _ _ _ _ h1 with ⟨e1,e2,e3,e4,e5⟩|⟨n1,a1⟩<;>rcases hbk _ _ _ _ _ h2 with ⟨e1',e2',e3',e4',e5'⟩|⟨n2,a2⟩
    ·exact ⟨by omega,by omega⟩
    ·exfalso
     subst e3;subst e4;subst e5
     have:=l2 q (hInT2 q h3)
     exact (hown q ⟨_,_,_,_,_,a2,h4.mv' (hInT _ _ _ _ _ a2)⟩).2.2 b2 _ hy2 rfl this
    ·exfalso
     subst e3';subst e4';subst e5'
     have:=l2 q (hInT2 q h4)
     exact (hown q ⟨_,_,_,_,_,a1,h3.mv' (hInT _ _ _ _ _ a1)⟩).2.2 b2 _ hy2 rfl this
    ·exact hdj0 _ _ _ _ _ _ _ _ _ _ q a1 a2 (h3.mv' (hInT _ _ _ _ _ a1)) (h4.mv' (hInT _ _ _ _ _ a2))
   have hput1:=hw.Hq b2 (.dead (v2'+1)) (θ b2) w
    (fun z hz=>by rw[hy2] at hz;obtain rfl:=Mh hz;exact .inl (Nat.lt_succ_self v2'))
    (fun q _=>.inl rfl) (Mp _) rfl rfl ⟨rfl,Mp _⟩ (fun q hq=>.inr ⟨_,hy2,rfl,hq⟩) (fun k hk=>hk.elim) trivial (fun _=>trivial)
   rw[Cy] at hput1
   obtain ⟨hw1,m1⟩:=hput1
   have hy1:upd bx b2 (some (Box.dead (v2'+1))) b=some (.arr v' te es m):=by rw[aY _ _ hbd];exact hy
   have hput:=hw1.Hq b (.arr v' te es' 4) (θ b) w'
    (fun z hz=>by rw[hy1] at hz;obtain rfl:=Mh hz;exact .inr ⟨rfl,⟨rfl,by rw[←hes'];simp⟩,rfl,fun h=>absurd h (by simp[Box.m])⟩)
    (fun q hq=>by
     by_cases hqg:q=g
     ·subst hqg;exact .inr ⟨_,hy1,rfl,by rw[hth];rfl⟩
     ·exact .inl (hoth q hqg))
    (by omega) f1 f2 f3 (fun q hq=>.inr ⟨_,hy1,rfl,hq⟩)
    (fun q hq=>by
     obtain ⟨_,i,j,ct,c,u,h1,h2⟩:=hq
     have key:¬F q/\Fre fr T w (upd bx b2 (some (Box.dead (v2'+1)))) θ b q:=by
      rcases hbk _ _ _ _ _ h1 with ⟨_,_,rfl,rfl,rfl⟩|⟨_,a1⟩
      ·have hq2:=l2 q (hInT2 q h2)
       obtain ⟨o1,o2,o3⟩:=hw.out b2 _ q hy2 rfl hq2
       refine ⟨o1,o2,o3.imp id .inl,fun b' y' hb' hl hg'=>?_,fun b' y' _ hb' hk=>?_⟩
       ·by_cases hc:b'=b2
        ·subst hc;rw[ar] at hb';obtain rfl:=Mh hb';simp[Box.live] at hl
        ·rw[aY _ _ hc] at hb'
         exact hc (hw.disj b' b2 _ _ q hb' hy2 hl rfl hg' hq2)
       ·by_cases hc:b'=b2
        ·subst hc;rw[ar] at hb';obtain rfl:=Mh hb';exact hk.elim
        ·rw[aY _ _ hc] at hb'
         exact (hw.own b' y' q hb' hk).2.2.2.2 b2 _ hy2 rfl hq2
      ·have hn1:(Box.arr v' te es m).nst T w (θ b) q:=⟨hm0,_,_,_,_,_,a1,h2.mv' (hInT _ _ _ _ _ a1)⟩
       exact ⟨(hown q hn1.2).2.1,xU hw1 hy1 hn1⟩
     exact ⟨fun _=>key.1,fun h=>absurd (show 2<=4 by decide) h,key.2⟩)
    (fun _=>qu.toM ⟨hrel,hdj⟩)
    (fun mv=>by
     refine ⟨de,_,cap,hde,by rw[ar,hth,←hes',MI],fun i c hc=>?_,.inr ⟨g,o,cs',rfl,hrow,by rw[hsz'];exact q2,by rw[←hes',MI];exact q3,fun i c j x ct u a1 a2 a3 a4=>?_⟩⟩
     ·rw[←hes',M9] at hc
      by_cases hi:ix.toNat=i
      ·rw[if_pos hi,if_pos (by omega)] at hc
       obtain rfl:=Mh hc
       have hnn:es[ix.toNat]?=some es[ix.toNat]:=Mg hn
       have hr:=hlen _ _ hnn
       have:es.getD ix.toNat []=es[ix.toNat]:=by rw[Mm,hnn];rfl
       rw[this]
       unfold aB
       rw[eC (by simp;omega)];exact hr
      ·rw[if_neg hi] at hc
       exact hlen _ _ hc
     ·show ji T w' ct x u
      refine hrel i j ct x u ?_
      rw[hth]
      exact (dE hde hrow).2 ⟨c,a1,a2,a3,by rw[MB];simpa using a4⟩)
   rw[Cy] at hput
   exact ⟨_,_,_,h,by simpa [Instr.storeAt,Instr.sureAddr] using hrun,F,θ,hput.1,m1.trans hput.2,.un _⟩
  ·exact (aC h).elim
 ·exact (aC h).elim
theorem JD (hT:TOk P T) (hw:WR T fr F w bx θ) {t:TypeId} {x:V} {v:Value} (hx:aj T F w bx θ x v) {y:V} {va:Value} (ha:aj T F w bx θ y va)
  {k:Eff->List Nat->R} {r:Out} (h:IM T t x y bx k=some r):ub P T fr F w bx θ (Instr.storeAt t va v) k r:=by
 unfold IM at h
 split at h
 ·rename_i b2 v2 b ver ix off nb
  replace h:=kR h;obtain ⟨z,hz,h⟩:=h
  split at h
  ·rename_i v' te es m
   cases hm:Nat.ble 2 m with
   |true=>rw[hm,ai] at h;obtain ⟨e,rd,w',h1,h2⟩:=EZ hT hw hx ha h;exact ⟨e,_,w',h1,h2⟩
   |false=>rw[hm,aX] at h;obtain ⟨e,rd,w',h1,h2⟩:=Bn hT hw hx ha h;exact ⟨e,_,w',h1,h2⟩
  ·exact (aC h).elim
 ·exact Bn hT hw hx ha h
theorem Jh {X:Cx} (hT:TOk P X.T) (hw:WR X.T fr F w bx θ) {t:TypeId} {b:Nat} {s x:V} {vs vx:Value} (hs:aj X.T F w bx θ s vs) (hx:aj X.T F w bx θ x vx) {k:Eff->List Nat->R} {r:Out} (ty:TypeId)
  (h:EL X t b s x bx k=some r):Chg P X.T fr F w bx θ (Builtin.append_ #[t,t] ty #[vs,vx]) k r:=by
 unfold EL at h
 split at h
 ·exact EC hT hw hs hx ty h
 ·exact Fj hT hw hs hx ty h
end
end Go.Ev
namespace Go.Ev
theorem Gi (a:ByteArray):∀(n i:Nat) (r:List UInt8),n+i=a.size->ByteArray.toList.loop a i r=r.reverse++a.data.toList.drop i
 |0,i,r,h=>by
  have hi:i=a.size:=by omega
  subst hi
  unfold ByteArray.toList.loop
  rw[if_neg (Nat.lt_irrefl _)]
  have:a.data.toList.drop a.size=[]:=List.drop_of_length_le (by rw[Array.length_toList];exact Mp _)
  rw[this,M1]
 |n+1,i,r,h=>by
  have hi:i<a.size:=by omega
  unfold ByteArray.toList.loop
  rw[if_pos hi,Gi a n (i+1) (a.get! i::r) (by omega)]
  have hd:i<a.data.toList.length:=by rw[Array.length_toList];exact hi
  rw[MU hd,List.reverse_cons,M0]
  congr 1
  show [a.get! i]++_=_
  have:a.get! i=a.data.toList[i]:=by
   show a.data[i]! =_
   rw[getElem!_pos a.data i hi,Array.getElem_toList]
  rw[this];rfl
theorem xJ (a:ByteArray):a.toList=a.data.toList:=by
 have:=Gi a a.size 0 [] (by omega)
 simpa [ByteArray.toList] using this
theorem K0 {a b:ByteArray} (h:a.toList=b.toList):a=b:=by
 rw[xJ,xJ] at h
 cases a;cases b
 simpa using h
theorem vQ (a b:ByteArray):(a==b)=(a.toList==b.toList):=by
 have e:(a==b)=(a.data==b.data):=by cases a;cases b;rfl
 rw[e,xJ,xJ,Bool.eq_iff_iff]
 simp only[MY]
 exact ⟨fun h=>by rw[h],fun h=>Array.toList_inj.1 h⟩
theorem LR {a b:ByteArray} (h:(a==b)=true):a=b:=by
 rw[vQ] at h
 exact K0 (by simpa using h)
theorem Ln (a:ByteArray):(a==a)=true:=by rw[vQ];simp
theorem zd {d:TD} {ct:CT} (h:sP d=some ct):d.cts=[ct]/\((∃k,ct=.int k)∨ct=.bool∨ct=.str)/\d.agg=false:=by
 unfold sP at h
 split at h<;>rename_i h1 h2<;>first
  |(simp only[Mj] at h;subst h;refine ⟨h2,?_,by simp[TD.agg,h1]⟩;simp)
  |simp at h
theorem EM {d:TD} {ct:CT} (h:sP d=some ct):zeroOf d=cd ct:=by
 obtain ⟨h1,_,h3⟩:=zd h
 unfold zeroOf
 rw[h3,h1];rfl
theorem EK {d:TD} {ct:CT} (h:sP d=some ct):iR ct (ir ct) (cd ct):=by
 obtain ⟨_,h2,_⟩:=zd h
 rcases h2 with ⟨k,rfl⟩|rfl|rfl<;>rfl
theorem iR.IW {T:Tys} {F:Nat->Prop} {w:World} {ct:CT} {c:C} {v:Value} (h:iR ct c v):cE T F w ct c v:=by
 unfold iR at h
 split at h
 ·subst h;exact .int _ _
 ·subst h;exact .bool _
 ·subst h;exact .str _
 ·exact h.elim
theorem cE.iR {T:Tys} {F:Nat->Prop} {w:World} {d:TD} {ct:CT} {c:C} {v:Value} (hf:sP d=some ct) (h:cE T F w ct c v):Go.Ev.iR ct c v:=by
 obtain ⟨_,h2,_⟩:=zd hf
 rcases h2 with ⟨k,rfl⟩|rfl|rfl<;>cases h<;>rfl
theorem sb {ct:CT} (z:C) (k:ByteArray):∀ {es:List (List C)} {l:List MapEntry},kv ct es l->
  (pN k es=false/\j7 z k es=z/\∀i,Instr.findNow .string (.string k) l i=some none)∨
  (pN k es=true/\∃j v k',j<l.length/\(l[j]?).map (·.key)=some (.string k')/\(k'==k)=true/\iR ct (j7 z k es) v/\∀i,Instr.findNow .string (.string k) l i=some (some (i+j,v)))
 |_,_,.nil=>.inl ⟨rfl,rfl,fun i=>rfl⟩
 |_,_,.cons k' c e es l hk hv h=>by
  have e1:Instr.sameNow .string (.string k) e.key=some (k==k'):=by rw[hk];rfl
  cases hb:k==k' with
  |true=>
   have hb':(k.toList==k'.toList)=true:=by rw[←vQ];exact hb
   refine .inr ⟨?_,0,e.val,k',by simp,by simp[hk],?_,?_,fun i=>?_⟩
   ·show cond (k.toList==k'.toList) true (pN k es)=true
    rw[hb'];rfl
   ·rw[LR hb];exact Ln _
   ·show iR ct (cond (k.toList==k'.toList) c (j7 z k es)) e.val
    rw[hb'];exact hv
   ·simp only[Instr.findNow,e1,hb,Nat.add_zero]
  |false=>
   have hb':(k.toList==k'.toList)=false:=by rw[←vQ];exact hb
   have m1:pN k ([.s k',c]::es)=pN k es:=by
    show cond (k.toList==k'.toList) true (pN k es)=pN k es
    rw[hb'];rfl
   have m2:j7 z k ([.s k',c]::es)=j7 z k es:=by
    show cond (k.toList==k'.toList) c (j7 z k es)=j7 z k es
    rw[hb'];rfl
   rw[m1,m2]
   rcases sb z k h with ⟨h1,h2,h3⟩|⟨h1,j,v,k2,h2,h3,h4,h5,h6⟩
   ·exact .inl ⟨h1,h2,fun i=>by simp only[Instr.findNow,e1,hb,h3]⟩
   ·exact .inr ⟨h1,j+1,v,k2,by simpa using h2,by simpa using h3,h4,h5,fun i=>by simp only[Instr.findNow,e1,hb,h6];congr 3;omega⟩
theorem AK {ct:CT} (k:ByteArray) {y:C} {u:Value} (hy:iR ct y u) (clock:Nat):∀ {es:List (List C)} {l:List MapEntry},kv ct es l->
  (pN k es=false->kv ct (l8 k y es) (l++[{key:=.string k,val:=u,born:=clock}]))/\
  (pN k es=true->∀j v,(∀i,Instr.findNow .string (.string k) l i=some (some (i+j,v)))->kv ct (l8 k y es) (l.modify j fun e=> {e with key:=.string k,val:=u}))
 |_,_,.nil=>⟨fun _=>.cons k y _ _ _ rfl hy .nil,fun h=>by simp[pN] at h⟩
 |_,_,.cons k' c e es l hk hv h=>by
  have e1:Instr.sameNow .string (.string k) e.key=some (k==k'):=by rw[hk];rfl
  obtain ⟨ih1,ih2⟩:=AK k hy clock h
  cases hb:k==k' with
  |true=>
   have hb':(k.toList==k'.toList)=true:=by rw[←vQ];exact hb
   have m1:pN k ([.s k',c]::es)=true:=by
    show cond (k.toList==k'.toList) true (pN k es)=true
    rw[hb'];rfl
   have m2:l8 k y ([.s k',c]::es)=[.s k,y]::es:=by
    show cond (k.toList==k'.toList) ([.s k,y]::es) ([.s k',c]::l8 k y es)=_
    rw[hb'];rfl
   rw[m1,m2]
   refine ⟨fun h=>by simp at h,fun _ j v hf=>?_⟩
   have:=hf 0
   simp only[Instr.findNow,e1,hb,Mj,MG] at this
   obtain rfl:j=0:=by omega
   exact .cons k y _ _ _ rfl hy h
  |false=>
   have hb':(k.toList==k'.toList)=false:=by rw[←vQ];exact hb
   have m1:pN k ([.s k',c]::es)=pN k es:=by
    show cond (k.toList==k'.toList) true (pN k es)=pN k es
    rw[hb'];rfl
   have m2:l8 k y ([.s k',c]::es)=[.s k',c]::l8 k y es:=by
    show cond (k.toList==k'.toList) ([.s k,y]::es) ([.s k',c]::l8 k y es)=_
    rw[hb'];rfl
   rw[m1,m2]
   refine ⟨fun h0=>.cons k' c e _ _ hk hv (ih1 h0),fun h0 j v hf=>?_⟩
   have h1:=hf 0
   simp only[Instr.findNow,e1,hb] at h1
   rcases sb y k h with ⟨q1,_,q3⟩|⟨q1,j2,v2,_,_,_,_,_,q6⟩
   ·rw[q1] at h0;cases h0
   ·rw[q6] at h1
    simp only[Mj,MG] at h1
    obtain ⟨hj,rfl⟩:=h1
    obtain rfl:j=j2+1:=by omega
    exact .cons k' c e _ _ hk hv (ih2 h0 j2 v2 q6)
section
variable {P:Program} {X:Cx} {fr:Fr} {F:Nat->Prop} {w:World} {bx:Bxs} {θ:Nat->Value}
def MOk (P:Program) (l:List (Nat×Nat)):Prop:=∀t e,zg l t=some e->∃kt,P.underlying t=some (.map kt e)/\P.underlying kt=some .string
theorem B8 {r clk:Nat} {arr:Array MapEntry} (h:w.heap[r]?=some (.map arr clk)):(getObj r).run P w=.ok (.map arr clk) w:=by simp[getObj,Sem.run,h]
theorem Ij {r clk:Nat} {arr:Array MapEntry} (h:w.heap[r]?=some (.map arr clk)) (o:Obj):(setObj r o).run P w=.ok () {w with heap:=w.heap.setIfInBounds r o}:=by simp[setObj,Sem.run,h]
theorem mE {kt:TypeId} (h:P.underlying kt=some .string) (e:Bool) (k:ByteArray) (w:World):(Instr.checkKey e 10000 kt (.string k)).run P w=.ok () w:=by
 show (Instr.checkKey e (9999+1) kt (.string k)).run P w=.ok () w
 unfold Instr.checkKey
 simp[run_underlying h]
theorem nN {kt:TypeId} (h:P.underlying kt=some .string) (k:ByteArray) {l:List MapEntry} {r:Option (Nat×Value)} (hf:Instr.findNow .string (.string k) l 0=some r) (w:World):
  (Instr.findKey kt (.string k) l).run P w=.ok r w:=by
 unfold Instr.findKey
 simp[run_underlying h,hf]
theorem Aq {t kt et:TypeId} {d:TD} {ct:CT} (hm:P.underlying t=some (.map kt et)) (hk:P.underlying kt=some .string) (hd:mz P X.T et d) (hf:sP d=some ct) (k:ByteArray) (ok:Bool) {r clk:Nat} {arr:Array MapEntry} {es:List (List C)}
  (hh:w.heap[r]?=some (.map arr clk)) (hr:kv ct es arr.toList):
  ∃v,iR ct (j7 (ir ct) k es) v/\(Instr.lookup t (.map (some r)) (.string k) ok).run P w=.ok (if ok then .tuple #[v,.bool (pN k es)] else v) w:=by
 have hz:(zeroValue et).run P w=.ok (cd ct) w:=by rw[hd.yG,EM hf]
 rcases sb (ir ct) k hr with ⟨h1,h2,h3⟩|⟨h1,j,v,k',h2,h3,h4,h5,h6⟩
 ·refine ⟨cd ct,by rw[h2];exact EK hf,?_⟩
  unfold Instr.lookup
  simp[run_underlying hm,B8 hh,mE hk,nN hk k (h3 0),hz,h1]
 ·refine ⟨v,h5,?_⟩
  have h6':=h6 0
  unfold Instr.lookup
  simp[run_underlying hm,B8 hh,mE hk,nN hk k h6',h1]
theorem Au {t kt et:TypeId} {ct:CT} (hm:P.underlying t=some (.map kt et)) (hk:P.underlying kt=some .string) (k:ByteArray) {y:C} {u:Value} (hy:iR ct y u) {r clk:Nat} {arr:Array MapEntry} {es:List (List C)}
  (hh:w.heap[r]?=some (.map arr clk)) (hr:kv ct es arr.toList):
  ∃arr' clk',(Instr.mapUpdate t (.map (some r)) (.string k) u).run P w=.ok () {w with heap:=w.heap.setIfInBounds r (.map arr' clk')}/\kv ct (l8 k y es) arr'.toList:=by
 obtain ⟨m1,m2⟩:=AK k hy clk hr
 rcases sb y k hr with ⟨h1,_,h3⟩|⟨h1,j,v,k',h2,h3,h4,_,h6⟩
 ·refine ⟨arr.push {key:=.string k,val:=u,born:=clk},clk+1,?_,by simpa using m1 h1⟩
  unfold Instr.mapUpdate
  simp[run_underlying hm,B8 hh,mE hk,nN hk k (h3 0),Ij hh]
 ·have h6':=h6 0
  rw[My] at h6'
  refine ⟨arr.modify j fun e=> {e with key:=.string k,val:=u},clk,?_,?_⟩
  ·have h3':(arr[j]?).map (·.key)=some (.string k'):=by simpa using h3
   have hkts:(Instr.keyThatStays (((arr[j]?).map (·.key)).getD (.string k)) (.string k)).run P w=.ok (.string k) w:=by
    rw[h3']
    have:Instr.sameBits 10000 (.string k') (.string k)=true:=by
     show Instr.sameBits (9999+1) (.string k') (.string k)=true
     unfold Instr.sameBits
     exact h4
    simp[Instr.keyThatStays,this]
   unfold Instr.mapUpdate
   simp[run_underlying hm,B8 hh,mE hk,nN hk k h6',hkts,Ij hh]
  ·have:=m2 h1 j v (fun i=>h6 i)
   simpa [Array.toList_modify] using this
theorem Et (hT:TOk P X.T) (hM:MOk P X.mps) (hw:WR X.T fr F w bx θ) {t:TypeId} {m k:V} {vm vk:Value} {ok:Bool} (hm:aj X.T F w bx θ m vm) (hk:aj X.T F w bx θ k vk) {κ:Eff->List Nat->R} {r:Out}
  (h:xL X t m k ok bx κ=some r):Reads P X.T F w bx θ (Instr.lookup t vm vk ok) κ r:=by
 unfold xL at h
 split at h
 ·rename_i b ver key
  replace h:=kO h;obtain ⟨et,he,h⟩:=h
  replace h:=kO h;obtain ⟨d,hd,h⟩:=h
  replace h:=kO h;obtain ⟨ct,hct,h⟩:=h
  replace h:=kR h;obtain ⟨y,hy,h⟩:=h
  split at h
  ·rename_i v et' es
   replace h:=kS h;obtain ⟨c1,hκ⟩:=h
   rw[dW] at hκ
   rw[ao,Mk] at c1
   have e1:=Mi c1.1
   have e2:=Mi c1.2
   subst e1;subst e2
   obtain ⟨q,arr,clk,d',ct',hth,hh,hd',hct',hrows⟩:=hw.box b _ hy
   rw[hd] at hd';obtain rfl:=Mh hd'
   rw[hct] at hct';obtain rfl:=Mh hct'
   obtain ⟨kt,hmt,hkt⟩:=hM _ _ he
   cases hm with
   |mp b ver vv x hb hv hs hp=>
    rw[hy] at hb;obtain rfl:=Mh hb
    obtain ⟨t2,es2,_,rfl⟩:=hp rfl
    cases hk with
    |c _ _ _ hc=>
     cases hc with
     |str s=>
      obtain ⟨u,hu,hrun⟩:=Aq (X:=X) hmt hkt (cC hT hd) hct s ok hh hrows
      rw[←hth] at hrun
      refine ⟨_,_,_,hκ,hrun,?_⟩
      cases ok with
      |false=>exact .c _ _ _ hu.IW
      |true=>
       refine .tu [_,_] [_,_] rfl fun i x v h1 h2=>?_
       match i with
       |0=>simp at h1 h2;subst h1;subst h2;exact .c _ _ _ hu.IW
       |1=>simp at h1 h2;subst h1;subst h2;exact .c _ _ _ (.bool _)
       |i+2=>simp at h1
  ·exact (aC h).elim
 ·exact (aC h).elim
theorem CW (hw:WR X.T fr F w bx θ) {t:TypeId} {b:Nat} {κ:Eff->List Nat->R} {r:Out} (h:yD X t b bx κ=some r):Chg P X.T fr F w bx θ (Instr.makeMap t none) κ r:=by
 unfold yD at h
 replace h:=kO h;obtain ⟨et,he,h⟩:=h
 replace h:=kO h;obtain ⟨d,hd,h⟩:=h
 replace h:=kO h;obtain ⟨ct,hct,h⟩:=h
 rw[bnd,lp] at h
 obtain ⟨f1,f2,f3,f4⟩:=pq w (.map #[] 0)
 have:=hw.put b (.mp (fY bx b) et []) (.map (some w.heap.size)) (w.alloc (.map #[] 0)) (fun x hx=>.inl (ph hx))
  (fun k hk=>.inl (heap_alloc_old w _ hk)) (by omega) f1 f2 f3 (fun g hg=>by simp[bJ] at hg;subst hg;exact .inl ⟨Mp _,by omega⟩)
  (fun _ h=>h) trivial (fun m=>⟨w.heap.size,#[],0,d,ct,ar _ _ _,heap_alloc_new w _,hd,hct,.nil⟩)
 exact ⟨_,_,_,_,h,(show (Instr.makeMap t none).run P w=.ok (.map (some w.heap.size)) (w.alloc (.map #[] 0)) from rfl),F,_,this.1,this.2,.mp b _ _ _ (ar _ _ _) (Mp _) ⟨_,rfl⟩ fun _=>⟨et,[],rfl,(ar _ _ _).symm⟩⟩
theorem Az (hT:TOk P X.T) (hM:MOk P X.mps) (hw:WR X.T fr F w bx θ) {t:TypeId} {m k y:V} {vm vk vy:Value} (hm:aj X.T F w bx θ m vm) (hk:aj X.T F w bx θ k vk) (hyv:aj X.T F w bx θ y vy) {κ:Eff->List Nat->R} {r:Out}
  (h:qd X t m k y bx κ=some r):∃e rd w',κ e rd=some r/\(Instr.mapUpdate t vm vk vy).run P w=.ok () w'/\Aft X.T fr F w bx θ e undef w':=by
 unfold qd at h
 split at h
 ·rename_i b ver key ct2 z
  replace h:=kO h;obtain ⟨et,he,h⟩:=h
  replace h:=kO h;obtain ⟨d,hd,h⟩:=h
  replace h:=kO h;obtain ⟨ct,hct,h⟩:=h
  replace h:=kR h;obtain ⟨x,hx,h⟩:=h
  split at h
  ·rename_i v et' es
   replace h:=kS h;obtain ⟨c1,hκ⟩:=h
   simp only[ao,Mk] at c1
   have e1:=Mi c1.1.1
   have e2:=Mi c1.1.2
   have e3:=gI c1.2
   subst e1;subst e2;subst e3
   obtain ⟨q,arr,clk,d',ct',hth,hh,hd',hct',hrows⟩:=hw.box b _ hx
   rw[hd] at hd';obtain rfl:=Mh hd'
   rw[hct] at hct';obtain rfl:=Mh hct'
   obtain ⟨kt,hmt,hkt⟩:=hM _ _ he
   cases hm with
   |mp b ver vv x hb hv hs hp=>
    rw[hx] at hb;obtain rfl:=Mh hb
    obtain ⟨t2,es2,_,rfl⟩:=hp rfl
    cases hk with
    |c _ _ _ hc=>
     cases hc with
     |str s=>
      cases hyv with
      |c _ _ _ hcy=>
       obtain ⟨arr',clk',hrun,hrows'⟩:=Au (P:=P) (w:=w) hmt hkt s (cE.iR hct hcy) hh hrows
       rw[←hth] at hrun
       have hqlt:q<w.heap.size:=(Array.getElem?_eq_some_iff.1 hh).1
       have hput:=hw.put b (.mp v et (l8 s z es)) (θ b) {w with heap:=w.heap.setIfInBounds q (.map arr' clk')}
        (fun x' hx'=>by rw[hx] at hx';obtain rfl:=Mh hx';exact .inr ⟨rfl,rfl,rfl,fun h=>by simp[Box.m] at h⟩)
        (fun g hg=>by
         by_cases hgq:g=q
         ·subst hgq;exact .inr ⟨_,hx,rfl,by rw[hth];rfl⟩
         ·left;show (w.heap.setIfInBounds q _)[g]?=_;rw[Array.getElem?_setIfInBounds,if_neg (fun h=>hgq h.symm)])
        (by show _<=(w.heap.setIfInBounds q _).size;simp) rfl rfl ⟨rfl,Mp _⟩ (fun g hg=>.inr ⟨_,hx,rfl,hg⟩) (fun _ h=>h) trivial
        (fun mv=>⟨q,arr',clk',d,ct,by rw[ar];exact hth,by show (w.heap.setIfInBounds q _)[q]?=_;rw[Array.getElem?_setIfInBounds,if_pos rfl,if_pos hqlt],hd,hct,hrows'⟩)
       exact ⟨_,_,_,hκ,hrun,F,_,hput.1,hput.2,.un _⟩
  ·exact (aC h).elim
 ·exact (aC h).elim
end
end Go.Ev
namespace Go.Ev
structure oh (P:Program) (T:Tys) (f:FuncId) (fs:FS):Prop where
 fn:∃fn c,P.funcs[f]?=some fn/\fn.body=some c/\(fn.name== "runtime.NumGoroutine")=false
 calls:∀(w:World) (wr nl F0:Nat->Prop) (θ:Nat->Value) (xs ys:List C) (args:Array Value),
  WR T ⟨w,wr,F0,θ,fs.ip,nl⟩ F0 w (fs.inT.inj xs).bx θ->args.size=fs.n->(∀k,k<fs.n->aj T F0 w (fs.inT.inj xs).bx θ ((fs.inT.inj xs).sl k) (args.getD k undef))->fs.F xs=some ys->
  Calls P f args w fun e w'=>∃v F1 θ1,e=.returned v/\WR T ⟨w,wr,F0,θ,[],nl⟩ F1 w' (fs.outT.inj ys).bx θ1/\aj T F1 w' (fs.outT.inj ys).bx θ1 ((fs.outT.inj ys).sl 0) v/\
   ∀n x,n∈fs.ip->(fs.outT.inj ys).bx n=some x->θ1 n=θ n/\(x.m=2->Hdr w w' (θ n))
structure Env (P:Program) (X:Cx):Prop where
 T:TOk P X.T
 E:∀t e,ey X.T t=some e->(P.info? e).isSome=true
 Φ:∀f d fs,X.Φ f d=some fs->oh P X.T f fs
 Q:∀t,cZ X.eqT t=true->Hv P X.T t
 M:MOk P X.mps
 mixed:P.follows .mixedOrders=true
section
variable {P:Program} {X:Cx} {fr:Fr} {F:Nat->Prop} {w:World} {bx:Bxs} {θ:Nat->Value}
def Good (P:Program) (T:Tys) (fr:Fr) (F:Nat->Prop) (w:World) (bx:Bxs) (θ:Nat->Value) (o:Oper) (a:Act) (k:Eff->List Nat->R) (r:Out):Prop:=
 ∃e rd,k e rd=some r/\OpR P o a w fun v w'=>Aft T fr F w bx θ e v w'
theorem Chg.pL {T:Tys} {o:Oper} {a:Act} {s:Sem Value} {k:Eff->List Nat->R} {r:Out} (h:Chg P T fr F w bx θ s k r) (he:execOp a.eval o=(do pure (Next.value (←s)))):Good P T fr F w bx θ o a k r:=by
 obtain ⟨e,rd,v,w',h1,h2,h3⟩:=h
 exact ⟨e,rd,h1,OpR.value (v:=v) (w':=w') (by rw[he];simp[h2]) h3⟩
theorem Aft.same {T:Tys} (hw:WR T fr F w bx θ) {x:V} {v:Value} (h:aj T F w bx θ x v):Aft T fr F w bx θ ⟨x,[]⟩ v w:=⟨F,θ,hw,Mv.refl _ _ _ _,h⟩
theorem gG {T:Tys} (hw:WR T fr F w bx θ) {o:Oper} {a:Act} {k:Eff->List Nat->R} {r:Out} {x:V} {v:Value} {rd:List Nat} (hk:k ⟨x,[]⟩ rd=some r) (hr:aj T F w bx θ x v)
  (he:(execOp a.eval o).run P w=.ok (.value v) w):Good P T fr F w bx θ o a k r:=⟨_,rd,hk,OpR.value he (Aft.same hw hr)⟩
theorem rD {T:Tys} {ρ:cu} {a:Act} (ho:∀x,aj T F w bx θ (bX ρ x) (a.eval x)):∀(l:List Operand),(l.map a.eval).length=(jh ρ l).length/\
  ∀(i:Nat) (y:V) (u:Value),(jh ρ l)[i]?=some y->(l.map a.eval)[i]?=some u->aj T F w bx θ y u
 |[]=>⟨rfl,fun i y u h=>by simp[jh] at h⟩
 |x::r=>by
  obtain ⟨h1,h2⟩:=rD ho r
  refine ⟨by simp[jh,←h1],fun i y u a1 a2=>?_⟩
  cases i with
  |zero=>simp[jh] at a1 a2;subst a1;subst a2;exact ho x
  |succ i=>exact h2 i y u (by simpa [jh] using a1) (by simpa using a2)
theorem LL {T:Tys} {ρ:cu} {a:Act} (ho:∀x,aj T F w bx θ (bX ρ x) (a.eval x)) (x:Option Operand):JE T F w bx θ (zh ρ x) (x.map a.eval):=by
 cases x with
 |none=>exact trivial
 |some x=>exact ho x
theorem DC {T:Tys} {x:V} {v:Value} (hx:aj T F w bx θ x v) {f:V->M Eff} {k:Eff->List Nat->R} {r:Out} (h:(do let p←Bf T x;f p:M Eff) bx k=some r):
  ∃x',aj T F w bx θ x' v/\f x' bx k=some r:=by
 have other:∀y:V,Bf T x=M.ret y->aj T F w bx θ y v->∃x',aj T F w bx θ x' v/\f x' bx k=some r:=fun y e hy=>by
  rw[e] at h
  exact ⟨y,hy,h⟩
 cases x with
 |c t y=>cases t with
  |pt e=>
   replace h:(do let p←(do let d←opt (bj T e);chk y.isP;M.ret (.fa d.cts y.P 0):M V);f p:M Eff) bx k=some r:=h
   cases hd:bj T e with
   |none=>rw[hd] at h;exact absurd (show (none:R)=some r from h) (by simp)
   |some d=>
    rw[hd] at h
    replace h:cond y.isP (f (.fa d.cts y.P 0) bx k) none=some r:=h
    cases hy:y.isP with
    |false=>rw[hy] at h;simp at h
    |true=>
     rw[hy] at h
     refine ⟨_,?_,h⟩
     cases hx with
     |c _ _ _ hr=>cases hr with
      |pt0=>simp[C.isP] at hy
      |pt _ d' cs g o cv hd' hF hlen hc hr=>
       rw[hd] at hd'
       obtain rfl:=Mh hd'
       exact .fa d.cts cs 0 g o cv hF hlen hc hr
  |_=>exact other _ rfl hx
 |_=>exact other _ rfl hx
theorem fN {bx:Bxs} {k:Eff->List Nat->R} {r:Out} (h:(M.fail:M Eff) bx k=some r):False:=aC h
theorem Gp (hX:Env P X) (hw:WR X.T fr F w bx θ) {ρ:cu} {a:Act} (ho:∀x,aj X.T F w bx θ (bX ρ x) (a.eval x)) {o:Oper} {k:Eff->List Nat->R} {r:Out}
  (hcall:∀c f,o.op=.call c->c.callee=.value f->lE X o.dst ρ c bx k=some r->Good P X.T fr F w bx θ o a k r)
  (h:evalOp X o.dst ρ o.op bx k=some r):Good P X.T fr F w bx θ o a k r:=by
 obtain ⟨dst,op,type,pos,after,guard⟩:=o
 cases op with
 |move x=>exact gG hw h (ho x) (by simp[execOp])
 |assign x=>exact gG hw h (ho x) (by simp[execOp])
 |pick c x y=>
  simp only[evalOp] at h
  have hc:=ho c
  generalize bX ρ c=cz at h hc
  cases cz with
  |c t z=>cases t with
   |bool=>
    obtain ⟨u,rd,hk,hv,hr⟩:=JG hc (ho x) (ho y) h
    exact gG hw hk hr (by simp[execOp,hv,asBool])
   |_=>exact (fN (bx:=bx) (k:=k) h).elim
  |_=>exact (fN (bx:=bx) (k:=k) h).elim
 |alloc t=>exact (Hk hX.T hw h).pL (by simp[execOp])
 |box t x=>exact (JY hX.T hw (ho x) h).pL (by simp[execOp])
 |build t ps=>exact ((GA hX.T hw ho h).chg hw).pL (by simp[execOp])
 |buildSlice t n ps=>exact (zV hX.T hw ho h).pL (by simp[execOp])
 |load t x=>
  obtain ⟨x',hx',h⟩:=DC (ho x) h
  exact ((KZ hX.T hw hx' h).chg hw).pL (by simp[execOp])
 |store t x y=>
  obtain ⟨e,rd,w',h1,h2,h3⟩:=JD hX.T hw (ho y) (ho x) h
  exact ⟨e,rd,h1,OpR.skip (w':=w') (by simp[execOp,h2]) h3⟩
 |nilCheck x=>
  obtain ⟨y,rd,h1,h2,h3⟩:=BL hX.T hw (ho x) h
  refine gG hw h1 h3 ?_
  rcases h2 with ⟨q,hq⟩|⟨f,c,hq⟩<;>simp[execOp,hq]
 |binOp op t x y e=>
  simp only[evalOp] at h
  have gen:Gw X.T op t (bX ρ x) (bX ρ y) bx k=some r->Good P X.T fr F w bx θ ⟨dst,.binOp op t x y e,type,pos,after,guard⟩ a k r:=fun h=>((Jf hX.T hw (ho x) (ho y) h x y).chg hw).pL (by simp[execOp,fy])
  have h1:=ho x;have h2:=ho y
  generalize bX ρ x=vx at h h1 gen
  generalize bX ρ y=vy at h h2 gen
  cases vx with
  |ag l _=>cases vy with
   |ag m _=>exact ((JN hX.Q hw h1 h2 h x y).chg hw).pL (by simp[execOp,fy])
   |_=>exact gen h
  |_=>exact gen h
 |unOp op t x=>
  simp only[evalOp] at h
  have hx:=ho x
  cases op with
  |not=>
   generalize hv:bX ρ x=cz at h hx
   cases cz with
   |c t z=>cases t with
    |bool=>exact gG hw h (sY _) (by simp[execOp,mm hx,Op.unary])
    |_=>exact (fN (bx:=bx) (k:=k) h).elim
   |_=>exact (fN (bx:=bx) (k:=k) h).elim
  |neg=>
   generalize hv:bX ρ x=cz at h hx
   cases cz with
   |c t z=>cases t with
    |int k1=>exact gG hw h (sA _ _) (by simp[execOp,tA hx,Op.unary,Op.intArith])
    |_=>exact (fN (bx:=bx) (k:=k) h).elim
   |_=>exact (fN (bx:=bx) (k:=k) h).elim
  |_=>exact (fN (bx:=bx) (k:=k) h).elim
 |convert s d x=>exact ((HT hX.T hw (ho x) h).chg hw).pL (by simp[execOp])
 |makeFunc fn first caps=>
  cases fn with
  |func f=>
   simp only[evalOp] at h
   replace h:=kS h;obtain ⟨c1,hk⟩:=h
   have hf:first= #[]:=by
    cases first with
    |mk l=>cases l with
     |nil=>rfl
     |cons=>simp[isNil] at c1
   subst hf
   obtain ⟨h1,h2⟩:=rD ho caps.toList
   refine gG hw hk (.fn f (jh ρ caps.toList) (caps.toList.map a.eval) h1 h2) (by
    have e:caps.map a.eval=(caps.toList.map a.eval).toArray:=by cases caps;simp
    simp[execOp,Instr.makeFunc,e])
  |_=>exact (fN (bx:=bx) (k:=k) h).elim
 |makeSlice t l c=>exact (Ar hX.T hw (ho l) (ho c) h).pL (by simp[execOp])
 |slice t x lo hi mx=>
  simp only[evalOp] at h
  replace h:=kS h;obtain ⟨c1,hk⟩:=h
  cases mx with
  |some m=>simp[isNone] at c1
  |none=>exact ((EW hX.T hX.E hw (ho x) (LL ho lo) (LL ho hi) hk).chg hw).pL (by simp[execOp])
 |fieldAddr s x f=>
  obtain ⟨x',hx',h⟩:=DC (ho x) h
  exact ((Ay hX.T hx' h).chg hw).pL (by simp[execOp])
 |field s x f=>exact ((G6 hX.T (ho x) h).chg hw).pL (by simp[execOp])
 |indexAddr t x i=>exact ((Av hX.T hw (ho x) (ho i) h).chg hw).pL (by simp[execOp])
 |index t x i=>exact ((Gx hX.T (ho x) (ho i) h).chg hw).pL (by simp[execOp])
 |makeMap t c=>
  cases c with
  |some c=>exact (fN (bx:=bx) (k:=k) h).elim
  |none=>exact (CW hw h).pL (by simp[execOp])
 |lookup t m y ok=>exact ((Et hX.T hX.M hw (ho m) (ho y) h).chg hw).pL (by simp[execOp])
 |mapUpdate t m y z=>
  obtain ⟨e,rd,w',h1,h2,h3⟩:=Az hX.T hX.M hw (ho m) (ho y) (ho z) h
  exact ⟨e,rd,h1,OpR.skip (w':=w') (by simp[execOp,h2]) h3⟩
 |extract x i=>
  simp only[evalOp] at h
  have hx:=ho x
  generalize bX ρ x=cz at h hx
  cases cz with
  |tu l=>
   have h2:(do rv (←opt (uA l i)):M Eff) bx k=some r:=h
   clear h;have h:=h2;clear h2
   replace h:=kO h;obtain ⟨y,hy,hk⟩:=h
   generalize hv:a.eval x=v at hx
   cases hx with
   |tu l vs hlen hr=>
    rw[nU] at hy
    have hi:i<vs.length:=by rw[hlen];exact (Ml.1 hy).1
    refine gG hw hk (hr i y vs[i] hy (Mg hi)) ?_
    simp[execOp,hv,Instr.extract,hi]
  |_=>exact (fN (bx:=bx) (k:=k) h).elim
 |call c=>
  obtain ⟨callee,args,argTypes⟩:=c
  cases callee with
  |value f=>exact hcall _ f rfl rfl h
  |invoke _ _=>exact (fN (bx:=bx) (k:=k) h).elim
  |builtin b=>
   simp only[evalOp,lE] at h
   cases b with
   |len=>
    rcases hx:args.toList with _|⟨x,_|⟨y,l⟩⟩
    ·simp only[hx] at h;exact (fN (bx:=bx) (k:=k) h).elim
    ·rcases ht:argTypes.toList with _|⟨t,_|⟨t',l'⟩⟩
     ·simp only[hx,ht] at h;exact (fN (bx:=bx) (k:=k) h).elim
     ·simp only[hx,ht] at h
      refine ((Jc hX.T hw (ho x) h type).chg hw).pL ?_
      have e1:args= #[x]:=by simpa using congrArg List.toArray hx
      have e2:argTypes= #[t]:=by simpa using congrArg List.toArray ht
      subst e1;subst e2
      simp[execOp,resolve,invoke,builtin]
     ·simp only[hx,ht] at h;exact (fN (bx:=bx) (k:=k) h).elim
    ·simp only[hx] at h;exact (fN (bx:=bx) (k:=k) h).elim
   |append=>
    rcases hx:args.toList with _|⟨s,_|⟨x,_|⟨y,l⟩⟩⟩
    ·simp only[hx] at h;exact (fN (bx:=bx) (k:=k) h).elim
    ·simp only[hx] at h;exact (fN (bx:=bx) (k:=k) h).elim
    ·rcases ht:argTypes.toList with _|⟨t,_|⟨t',_|⟨t'',l'⟩⟩⟩
     ·simp only[hx,ht] at h;exact (fN (bx:=bx) (k:=k) h).elim
     ·simp only[hx,ht] at h;exact (fN (bx:=bx) (k:=k) h).elim
     ·simp only[hx,ht] at h
      replace h:=kS h;obtain ⟨c1,hk⟩:=h
      have e0:=Mi c1;subst e0
      refine (Jh hX.T hw (ho s) (ho x) type hk).pL ?_
      have e1:args= #[s,x]:=by simpa using congrArg List.toArray hx
      have e2:argTypes= #[t,t]:=by simpa using congrArg List.toArray ht
      subst e1;subst e2
      simp[execOp,resolve,invoke,builtin]
     ·simp only[hx,ht] at h;exact (fN (bx:=bx) (k:=k) h).elim
    ·simp only[hx] at h;exact (fN (bx:=bx) (k:=k) h).elim
   |clear=>
    rcases hx:args.toList with _|⟨x,_|⟨y,l⟩⟩
    ·simp only[hx] at h;exact (fN (bx:=bx) (k:=k) h).elim
    ·rcases ht:argTypes.toList with _|⟨t,_|⟨t',l'⟩⟩
     ·simp only[hx,ht] at h;exact (fN (bx:=bx) (k:=k) h).elim
     ·simp only[hx,ht] at h
      refine (GC hX.T hw (ho x) type h).pL ?_
      have e1:args= #[x]:=by simpa using congrArg List.toArray hx
      have e2:argTypes= #[t]:=by simpa using congrArg List.toArray ht
      subst e1;subst e2
      simp[execOp,resolve,invoke,builtin]
     ·simp only[hx,ht] at h;exact (fN (bx:=bx) (k:=k) h).elim
    ·simp only[hx] at h;exact (fN (bx:=bx) (k:=k) h).elim
   |min=>
    simp only at h
    cases hargs:args.toList with
    |nil=>rw[hargs] at h;exact (fN (bx:=bx) (k:=k) h).elim
    |cons x xs=>
     rw[hargs] at h
     obtain ⟨h1,h2⟩:=rD ho xs
     obtain ⟨y,rd,u,g1,g2,g3⟩:=Ii (P:=P) false (jh ρ xs) (xs.map a.eval) _ _ (ho x) h1 h2 h
     refine gG hw g1 g3 ?_
     have e1:args=(x::xs).toArray:=by simpa using congrArg List.toArray hargs
     subst e1
     simp at g2
     simp[execOp,resolve,invoke,builtin,Builtin.min_,g2]
   |max=>
    simp only at h
    cases hargs:args.toList with
    |nil=>rw[hargs] at h;exact (fN (bx:=bx) (k:=k) h).elim
    |cons x xs=>
     rw[hargs] at h
     obtain ⟨h1,h2⟩:=rD ho xs
     obtain ⟨y,rd,u,g1,g2,g3⟩:=Ii (P:=P) true (jh ρ xs) (xs.map a.eval) _ _ (ho x) h1 h2 h
     refine gG hw g1 g3 ?_
     have e1:args=(x::xs).toArray:=by simpa using congrArg List.toArray hargs
     subst e1
     simp at g2
     simp[execOp,resolve,invoke,builtin,Builtin.max_,g2]
   |_=>exact (fN (bx:=bx) (k:=k) h).elim
 |_=>exact (fN (bx:=bx) (k:=k) h).elim
end
end Go.Ev
namespace Go.Ev
structure Ex.le (e e':Ex):Prop where
 xs:∃pre,e'.xs=pre++e.xs
 r:∀n b,e.r.find n=some b->e'.r.find n=some b
 fz:∀b,b∈e.fz->b∈e'.fz
theorem Ex.le_refl (e:Ex):e.le e:=⟨⟨[],rfl⟩,fun _ _ h=>h,fun _ h=>h⟩
theorem Ex.le.le_trans {a b c:Ex} (h:a.le b) (h':b.le c):a.le c:=by
 obtain ⟨p,hp⟩:=h.xs
 obtain ⟨q,hq⟩:=h'.xs
 exact ⟨⟨q++p,by rw[hq,hp,M0]⟩,fun n b x=>h'.r n b (h.r n b x),fun b x=>h'.fz b (h.fz b x)⟩
theorem Ex.push (e:Ex) (x:C):e.le ⟨x::e.xs,e.r,e.fz⟩:=⟨⟨[x],rfl⟩,fun _ _ h=>h,fun _ h=>h⟩
theorem Ex.AS (e:Ex) (x:C) (b:Nat):e.le ⟨x::e.xs,e.r,b::e.fz⟩:=⟨⟨[x],rfl⟩,fun _ _ h=>h,fun _ h=>MF _ h⟩
theorem Lb {a b:Option Nat} (h:onb a b=true):a=b:=by
 cases a<;>cases b<;>simp[onb] at h<;>first|rfl|(rw[h])
theorem jN (n m:Nat) (b:Option Nat) (r:Ren):Ren.find ((n,b)::r) m=if n=m then some b else Ren.find r m:=by
 by_cases h:n=m
 ·subst h;simp[Ren.find,sif]
 ·have:Nat.beq n m=false:=by
   cases hb:Nat.beq n m with
   |false=>rfl
   |true=>exact absurd (Mi hb) h
  simp[Ren.find,this,sif,h]
theorem oi {e e':Ex} {n:Nat} {b:Option Nat} (h:e.put n b=some e'):e.le e'/\e'.r.find n=some b/\e'.xs=e.xs/\e'.fz=e.fz:=by
 unfold Ex.put at h
 split at h
 ·rename_i r hr
  simp only[Mj] at h
  subst h
  unfold Ren.put at hr
  split at hr
  ·rename_i hn
   simp only[Mj] at hr
   subst hr
   refine ⟨⟨⟨[],rfl⟩,fun m c hm=>?_,fun _ h=>h⟩,by simp[jN],rfl,rfl⟩
   simp only[jN]
   split
   ·rename_i e;subst e;rw[hn] at hm;simp at hm
   ·exact hm
  ·rename_i b' hb
   cases ho:onb b' b with
   |false=>simp[ho,sif] at hr
   |true=>
    simp[ho,sif] at hr
    subst hr
    have:=Lb ho;subst this
    exact ⟨Ex.le_refl _,hb,rfl,rfl⟩
 ·simp at h
theorem gn {xs l:List C} {x:C} (h:∃pre,xs=pre++(x::l)):xs.reverse.getD l.length .nil=x:=by
 obtain ⟨pre,rfl⟩:=h
 simp[Mm]
theorem k7 {bx:Bxs} {b ver:Nat} {t:TypeId} {es:List (List C)} (h:du bx b ver=some (t,es)):∃m,bx b=some (.arr ver t es m)/\m≠3:=by
 unfold du at h
 split at h
 ·rename_i v t' es' m hb
  cases hv:az (Nat.beq v ver) (dY (Nat.beq m 3)) with
  |false=>simp[hv,sif] at h
  |true=>
   simp[hv,sif] at h
   obtain ⟨rfl,rfl⟩:=h
   rw[ao,Mk] at hv
   refine ⟨m,by rw[hb,Mi hv.1],?_⟩
   rintro rfl
   simp[dY] at hv
 ·simp at h
structure Fin (T:Tys) (F:Nat->Prop) (w:World) (bx:Bxs) (θ:Nat->Value) (F':Nat->Prop) (bx':Bxs) (θ':Nat->Value) (l:List (Nat×BSk)) (ef:Ex):Prop where
 F:∀k,F k->F' k
 fzF:∀b,b∈ef.fz->∀x,bx b=some x->x.live=true->∀g,bJ (θ b)=some g->F' g
 fz:∀b,b∈ef.fz->∀ver t es m,bx b=some (.arr ver t es m)->m≠3->cE T F' w (.sl t) (.l es) (θ b)
 nm:∀n b,bL l n=true->ef.r.find n=some (some b)->∃x x',bx b=some x/\bx' n=some x'/\x'.ver=0/\x.same x'/\θ' n=θ b
 no:∀n,bL l n=true->ef.r.find n=some none->∃t m,bx' n=some (.arr 0 t [] m)/\θ' n=.slice none 0 0
section
variable {T:Tys} {F F':Nat->Prop} {w:World} {bx bx':Bxs} {θ θ':Nat->Value} {l:List (Nat×BSk)}
def Ls (T:Tys) (F:Nat->Prop) (w:World) (bx:Bxs) (θ:Nat->Value) (l:List (Nat×BSk)) (k:Sk) (val:Value) (e e':Ex):Prop:=
 e.le e'/\(∀nm xs,(k.inst nm xs e.xs.length).2=e'.xs.length)/\
 ∀ef,e'.le ef->k.named l=true->∀F' bx' θ',Fin T F w bx θ F' bx' θ' l ef->aj T F' w bx' θ' (k.inst nm0 ef.xs.reverse e.xs.length).1 val
theorem bD (nm:Nm) (xs:List C):∀(ks:List Sk) (p:Nat),(Sk.insts nm xs ks p).1.length=ks.length
 |[],_=>rfl
 |k::r,p=>by simp[Sk.insts,bD nm xs r]
theorem yJ:∀ {a b:List CT},qn a b=true->a=b
 |[],[],_=>rfl
 |[],_::_,h=>by simp[qn] at h
 |_::_,[],h=>by simp[qn] at h
 |a::r,b::r',h=>by
  simp only[qn,ao,Mk] at h
  rw[gI h.1,yJ h.2]
theorem GK {t:TypeId} {d:TD} {es:List (List C)} {lo hi:Int} {A:Option Addr} {c:Nat} {v:Value} (hd:bj T t=some d) (h0:0<=lo) (h1:lo<=hi) (h2:hi<=es.length)
  (hcc:(hi-lo).toNat<=c) (hA:lo<hi->∃g o,v=.slice (some ⟨g,o,none⟩) es.length (c+lo.toNat)/\A=some ⟨g,o+lo.toNat*d.cts.length,none⟩) (h:cE T F w (.sl t) (.l es) v):
  cE T F w (.sl t) (.l ((es.take hi.toNat).drop lo.toNat)) (.slice A (hi-lo).toNat c):=by
 have hl:((es.take hi.toNat).drop lo.toNat).length=(hi-lo).toNat:=by
  rw[MQ,ME];omega
 rcases Int.lt_or_eq_of_le h1 with hlt|rfl
 ·obtain ⟨g,og,hv,rfl⟩:=hA hlt
  subst hv
  generalize hz:Value.slice (some ⟨g,og,none⟩) es.length (c+lo.toNat)=z at h
  cases h with
  |sl0=>simp at h2;omega
  |sl _ d' _ g' o' cap' cv hd' hF hcap hlen hc hr=>
   simp only[ML,Mj,Addr.mk.injEq] at hz
   obtain ⟨⟨rfl,rfl,_⟩,_,_⟩:=hz
   rw[hd] at hd'
   obtain rfl:=Mh hd'
   have key:∀(i:Nat) (cs:List C),((es.take hi.toNat).drop lo.toNat)[i]?=some cs->es[lo.toNat+i]?=some cs:=by
    intro i cs h
    rw[MB,List.getElem?_take] at h
    split at h
    ·exact h
    ·simp at h
   rw[←hl]
   refine .sl t d _ g (og+lo.toNat*d.cts.length) c (fun i j=>cv (lo.toNat+i) j) hd hF (by omega) (fun i cs h=>hlen _ _ (key i cs h)) (fun i cs j x a1 a2=>?_) fun i cs j x ct a1 a2 a3=>hr _ _ _ _ _ (key i cs a1) a2 a3
   have:=hc _ _ _ _ (key i cs a1) a2
   rw[←this]
   congr 2
   rw[Nat.add_mul];omega
 ·have e1:(es.take lo.toNat).drop lo.toNat=[]:=by simp
  have e2:(lo-lo).toNat=0:=by omega
  rw[e1,e2]
  exact .sl0 _ _ _
def KnT (T:Tys) (bx:Bxs):Prop:=∀(b v:Nat) (t:TypeId) (es:List (List C)) (m:Nat),bx b=some (.arr v t es m)->∃d,bj T t=some d
def KnB (T:Tys) (F:Nat->Prop) (w:World) (bx:Bxs) (θ:Nat->Value):Prop:=∀(b:Nat) (x:Box),bx b=some x->iZ T F w bx θ b x
theorem KnB.knT (hK:KnB T F w bx θ):KnT T bx:=fun b v t es m hb=>by
 obtain ⟨d,A,cap,hd,_⟩:=hK b _ hb
 exact ⟨d,hd⟩
theorem IZ {t:CT} {x:V} {v:Value} {c:C} {f:List Nat} (h:yi bx t x=some (c,f)) (hr:aj T F w bx θ x v) (hF:∀k,F k->F' k)
  (hz:∀b,b∈f->∀ver t es m,bx b=some (.arr ver t es m)->m≠3->cE T F' w (.sl t) (.l es) (θ b)):cE T F' w t c v:=by
 cases hr with
 |c t' x v hr=>
  replace h:sif (jg t t') (some (x,([]:List Nat))) none=some (c,f):=by cases t<;>exact h
  cases hc:jg t t' with
  |false=>simp[hc,sif] at h
  |true=>
   simp[hc,sif] at h
   have:=gI hc;subst this
   obtain ⟨rfl,rfl⟩:=h
   exact hr.mv hF fun _ _=>rfl
 |nl=>
  cases t with
  |sl t=>
   replace h:some (C.l [],([]:List Nat))=some (c,f):=h
   simp at h;obtain ⟨rfl,rfl⟩:=h
   exact .sl0 _ _ _
  |_=>exact absurd (show (none:Option (C×List Nat))=some (c,f) from h) (by simp)
 |np=>
  cases t with
  |pt t=>
   replace h:some (C.nil,([]:List Nat))=some (c,f):=h
   simp at h;obtain ⟨rfl,rfl⟩:=h
   exact .pt0 _
  |_=>exact absurd (show (none:Option (C×List Nat))=some (c,f) from h) (by simp)
 |ow b ver v y hb hv hs hh=>
  cases t with
  |sl t=>
   replace h:(match du bx b ver with|some (t',es)=>sif (Nat.beq t t') (some (C.l es,[b])) none|none=>none)=some (c,f):=h
   split at h
   ·rename_i t' es hl
    cases ht:Nat.beq t t' with
    |false=>simp[ht,sif] at h
    |true=>
     simp[ht,sif] at h
     obtain ⟨rfl,rfl⟩:=h
     have:=Mi ht;subst this
     obtain ⟨md,hbb,hm3⟩:=k7 hl
     rw[hb] at hbb
     obtain rfl:=Mh hbb
     obtain ⟨t2,es2,m2,_,rfl⟩:=hh rfl
     exact hz b (by simp) _ _ _ _ hb hm3
   ·simp at h
  |_=>exact absurd (show (none:Option (C×List Nat))=some (c,f) from h) (by simp)
 |_=>cases t<;>exact absurd (show (none:Option (C×List Nat))=some (c,f) from h) (by simp)
theorem xP:∀ {cts:List CT} {cells:List V} {cs:List C} {f:List Nat},j9 bx cts cells=some (cs,f)->
  cs.length=cts.length/\((∀k,F k->F' k)->(∀b,b∈f->∀ver t es m,bx b=some (.arr ver t es m)->m≠3->cE T F' w (.sl t) (.l es) (θ b))->
   ∀(i:Nat) (c:C) (ct:CT),cs[i]?=some c->cts[i]?=some ct->∃x,cells[i]?=some x/\∀v,aj T F w bx θ x v->cE T F' w ct c v)
 |[],[],cs,f,h=>by
  replace h:some (([]:List C),([]:List Nat))=some (cs,f):=h
  simp at h;obtain ⟨rfl,rfl⟩:=h
  exact ⟨rfl,fun _ _ i c ct h=>by simp at h⟩
 |[],_::_,cs,f,h=>absurd (show (none:Option (List C×List Nat))=some (cs,f) from h) (by simp)
 |_::_,[],cs,f,h=>absurd (show (none:Option (List C×List Nat))=some (cs,f) from h) (by simp)
 |t::ts,v::vs,cs,f,h=>by
  replace h:(match yi bx t v with
   |some (x,f)=>match j9 bx ts vs with
    |some (xs,g)=>some (x::xs,app f g)
    |none=>none
   |none=>none)=some (cs,f):=h
  split at h
  ·rename_i x f1 h1
   split at h
   ·rename_i xs g h2
    simp only[Mj,MG] at h
    obtain ⟨rfl,rfl⟩:=h
    obtain ⟨a,b⟩:=xP h2
    refine ⟨by simp[a],fun hF hz i c ct hi ht=>?_⟩
    rw[fP] at hz
    cases i with
    |zero=>
     simp only[M3,Mj] at hi ht
     subst hi;subst ht
     exact ⟨v,rfl,fun u hu=>IZ h1 hu hF fun b hb=>hz b (List.mem_append_left _ hb)⟩
    |succ i=>
     obtain ⟨x',e1,e2⟩:=b hF (fun b hb=>hz b (List.mem_append_right _ hb)) i c ct (by simpa using hi) (by simpa using ht)
     exact ⟨x',by simpa using e1,e2⟩
   ·simp at h
  ·simp at h
theorem C2:∀ {cts:List CT} {cells:List V} {cs:List C} {f:List Nat},j9 bx cts cells=some (cs,f)->cells.length=cts.length
 |[],[],_,_,_=>rfl
 |[],_::_,cs,f,h=>absurd (show (none:Option (List C×List Nat))=some (cs,f) from h) (by simp)
 |_::_,[],cs,f,h=>absurd (show (none:Option (List C×List Nat))=some (cs,f) from h) (by simp)
 |t::ts,v::vs,cs,f,h=>by
  simp only[j9] at h
  split at h
  ·split at h
   ·rename_i h2;simp[C2 h2]
   ·simp at h
  ·simp at h
theorem Ex.Ko (e:Ex) (x:C) (b:Nat) (f:List Nat):e.le ⟨x::e.xs,e.r,b::app f e.fz⟩:=⟨⟨[x],rfl⟩,fun _ _ h=>h,fun c h=>by
 rw[fP];exact MF _ (List.mem_append_right _ h)⟩
theorem Ex.IS (e:Ex) (x:C) (f:List Nat):e.le ⟨x::e.xs,e.r,app f e.fz⟩:=⟨⟨[x],rfl⟩,fun _ _ h=>h,fun c h=>by
 rw[fP];exact List.mem_append_right _ h⟩
theorem tn:∀ {ts:List CT} {vs:List V},ll ts vs=true->vs.length=ts.length/\∀(i:Nat) (x:V),vs[i]?=some x->∃t c,ts[i]?=some t/\x=.c t c
 |[],[],_=>⟨rfl,fun i x h=>by simp at h⟩
 |[],_::_,h=>by simp[ll] at h
 |_::_,[],h=>by simp[ll] at h
 |t::ts,v::vs,h=>by
  cases v with
  |c t' c=>
   simp only[ll,ao,Mk] at h
   obtain ⟨a,b⟩:=tn h.2
   refine ⟨by simp[a],fun i x hx=>?_⟩
   cases i with
   |zero=>simp at hx;exact ⟨t,c,rfl,by rw[←hx,gI h.1]⟩
   |succ i=>simpa using b i x (by simpa using hx)
  |_=>simp[ll] at h
theorem E5 {ts:List CT} {cs:List C} {vals:List Value} (hl:cs.length=ts.length) (hv:vals.length=ts.length) (h:∀(i:Nat) (c:C) (t:CT) (v:Value),cs[i]?=some c->ts[i]?=some t->vals[i]?=some v->cE T F w t c v):
  aj T F w bx θ (.ag (eM ts cs 0 (len ts)) (some (.p cs))) (.agg vals.toArray):=by
 obtain ⟨h1,h2⟩:=kY ts cs (len ts) 0
 rw[dA] at h1 h2⊢
 refine .ag _ _ _ (by rw[h1,hv]) (fun x hx=>⟨cs,(Mh hx).symm,by rw[h1,hl],fun i v hv=>?_⟩) fun i x v a b=>?_
 ·have hi:i<ts.length:=by rw[←h1];exact (Ml.1 hv).1
  rw[h2 i hi,My] at hv
  exact ⟨_,(Mh hv).symm⟩
 ·have hi:i<ts.length:=by rw[←h1];exact (Ml.1 a).1
  rw[h2 i hi,My] at a
  rw[←Mh a]
  refine .c _ _ _ (h i _ _ v ?_ ?_ b)
  ·rw[Mm,Mg (by omega)];rfl
  ·rw[Mm,Mg hi];rfl
theorem LG {ts:List CT} {cs:List C} {o:Option C} {off n:Nat} {v:Value} (hF:∀k,F k->F' k) (h:aj T F w bx θ (.ag (eM ts cs off n) o) v):aj T F' w bx' θ' (.ag (eM ts cs off n) o) v:=by
 cases h with
 |ag _ _ vs hl ho hr=>
  refine .ag _ _ vs hl ho fun i x v a b=>?_
  have:=hr i x v a b
  obtain ⟨h1,h2⟩:=kY ts cs n off
  have hi:i<n:=by rw[←h1];exact (Ml.1 a).1
  rw[h2 i hi] at a
  rw[←Mh a] at this⊢
  cases this with
  |c _ _ _ hc=>exact .c _ _ _ (hc.mv hF fun _ _=>rfl)
variable (hK:KnB T F w bx θ)
include hK
mutual
theorem HV:∀(k:Sk) (v:V) (val:Value) (e e':Ex),aj T F w bx θ v val->k.ext T bx v e=some e'->Ls T F w bx θ l k val e e'
 |.un,v,val,e,e',hv,h=>by
  replace h:some e=some e':=by cases v<;>exact h
  simp only[Mj] at h
  subst h
  exact ⟨Ex.le_refl _,fun _ _=>rfl,fun ef _ _ F' bx' θ' _=>.un _⟩
 |.d t,v,val,e,e',hv,h=>by
  cases hv with
  |c t' x v hr=>
   replace h:sif (jg t t') (some ⟨x::e.xs,e.r,e.fz⟩) none=some e':=by cases t<;>exact h
   cases hc:jg t t' with
   |false=>simp[hc,sif] at h
   |true=>
    simp[hc,sif] at h
    have:=gI hc;subst this
    subst h
    refine ⟨e.push x,fun _ _=>rfl,fun ef hef _ F' bx' θ' hf=>?_⟩
    show aj T F' w bx' θ' (.c t (ef.xs.reverse.getD e.xs.length .nil)) _
    rw[gn hef.xs]
    exact .c _ _ _ (hr.mv hf.F fun _ _=>rfl)
  |nl=>
   cases t with
   |sl t=>
    replace h:some (⟨.l []::e.xs,e.r,e.fz⟩:Ex)=some e':=h
    simp only[Mj] at h
    subst h
    refine ⟨e.push _,fun _ _=>rfl,fun ef hef _ F' bx' θ' hf=>?_⟩
    show aj T F' w bx' θ' (.c _ (ef.xs.reverse.getD e.xs.length .nil)) _
    rw[gn hef.xs]
    exact .c _ _ _ (.sl0 _ _ _)
   |_=>exact absurd (show (none:Option Ex)=some e' from h) (by simp)
  |vw b ver lo hi v y hb hv hs hh=>
   cases t with
   |sl t=>
    replace h:(match du bx b ver with
     |some (t',es)=>sif (Nat.beq t t') (some (⟨.l ((es.take hi.toNat).drop lo.toNat)::e.xs,e.r,b::e.fz⟩:Ex)) none
     |none=>none)=some e':=h
    split at h
    ·rename_i t' es hl
     obtain ⟨md,hbb,hm3⟩:=k7 hl
     cases ht:Nat.beq t t' with
     |false=>simp[ht,sif] at h
     |true=>
      simp[ht,sif] at h
      have:=Mi ht
      subst this
      subst h
      rw[hb] at hbb
      obtain rfl:=Mh hbb
      obtain ⟨t2,es2,m2,d,A,c,e1,hd,h0,h1,h2,rfl,hcc,hA,_⟩:=hh rfl
      simp only[Box.arr.injEq,true_and] at e1
      obtain ⟨rfl,rfl,rfl⟩:=e1
      refine ⟨e.AS _ _,fun _ _=>rfl,fun ef hef _ F' bx' θ' hf=>?_⟩
      show aj T F' w bx' θ' (.c _ (ef.xs.reverse.getD e.xs.length .nil)) _
      rw[gn hef.xs]
      exact .c _ _ _ (GK hd h0 h1 h2 hcc hA (hf.fz b (hef.fz _ (Mz ..)) _ _ _ _ hb hm3))
    ·simp at h
   |_=>exact absurd (show (none:Option Ex)=some e' from h) (by simp)
  |pt b ver off v y hb hv hs hh=>
   cases t with
   |pt t=>
    cases off with
    |succ off=>exact absurd (show (none:Option Ex)=some e' from h) (by simp)
    |zero=>
     replace h:(match bx b with
      |some (.var v t' cells)=>sif (az (Nat.beq t t') (Nat.beq v ver)) (match bj T t with
       |some td=>match j9 bx td.cts cells with
        |some (cs,f)=>some (⟨.p cs::e.xs,e.r,b::app f e.fz⟩:Ex)
        |none=>none
       |none=>none) none
      |_=>none)=some e':=h
     rw[hb] at h
     cases y with
     |var v' t' cells=>
      replace h:sif (az (Nat.beq t t') (Nat.beq v' ver)) (match bj T t with
       |some td=>match j9 bx td.cts cells with
        |some (cs,f)=>some (⟨.p cs::e.xs,e.r,b::app f e.fz⟩:Ex)
        |none=>none
       |none=>none) none=some e':=h
      cases hq:az (Nat.beq t t') (Nat.beq v' ver) with
      |false=>rw[hq,aX] at h;simp at h
      |true=>
       rw[hq,ai] at h
       simp only[ao,Mk] at hq
       have e1:=Mi hq.1;subst e1
       have e2:=Mi hq.2;subst e2
       split at h
       ·rename_i td htd
        split at h
        ·rename_i cs f hcs
         simp only[Mj] at h
         subst h
         obtain ⟨t2,cells2,g,e3,e4,rfl⟩:=hh rfl
         simp only[Box.var.injEq,true_and] at e3
         obtain ⟨rfl,rfl⟩:=e3
         obtain ⟨g',wcs,ee,d,k1,k2,k3,k4,k5,k6⟩:=hK b _ hb
         rw[e4] at k1
         simp only[Value.pointer.injEq,Mj,Addr.mk.injEq,true_and] at k1
         obtain ⟨rfl,_⟩:=k1
         rw[htd] at k4
         obtain rfl:=Mh k4
         refine ⟨e.Ko _ _ _,fun _ _=>rfl,fun ef hef _ F' bx' θ' hf=>?_⟩
         show aj T F' w bx' θ' (.c _ (ef.xs.reverse.getD e.xs.length .nil)) _
         rw[gn hef.xs]
         have hmem:∀c,c∈f->c∈ef.fz:=fun c hc=>hef.fz _ (MF _ (by rw[fP];exact List.mem_append_left _ hc))
         obtain ⟨l1,l2⟩:=xP (T:=T) (F:=F) (F':=F') (w:=w) (θ:=θ) hcs
         have l3:=l2 hf.F (fun c hc=>hf.fz c (hmem c hc))
         refine .c _ _ _ (.pt t td cs g 0 (fun j=>wcs.getD j undef) htd (hf.fzF b (hef.fz _ (Mz ..)) _ hb rfl g (by rw[e4];rfl)) l1 (fun j c hj=>?_) fun j c ct hj hct=>?_)
         ·have hj':j<wcs.size:=by rw[k3,k5,←l1];exact (Ml.1 hj).1
          simp[World.cell?,k2,hj']
         ·obtain ⟨x,a1,a2⟩:=l3 j c ct hj hct
          have hj':j<wcs.size:=by rw[k3];exact (Ml.1 a1).1
          refine a2 _ (k6 j x _ a1 ?_)
          simp[hj']
        ·simp at h
       ·simp at h
     |_=>exact absurd (show (none:Option Ex)=some e' from h) (by simp)
   |_=>cases off<;>exact absurd (show (none:Option Ex)=some e' from h) (by simp)
  |pe b ver ix off nb v y hb hv hs hh=>
   cases t with
   |pt t=>
    cases off with
    |succ off=>exact absurd (show (none:Option Ex)=some e' from h) (by simp)
    |zero=>
     replace h:(match du bx b ver with
      |some (t',es)=>sif (Nat.beq t t') (some (⟨sif nb (cond (decide (0<=ix)) (.p (es.getD ix.toNat [])) .nil) (.p (es.getD ix.toNat []))::e.xs,e.r,b::e.fz⟩:Ex)) none
      |none=>none)=some e':=h
     split at h
     ·rename_i t' es hl
      cases ht:Nat.beq t t' with
      |false=>simp[ht,sif] at h
      |true=>
       rw[ht,ai] at h
       simp only[Mj] at h
       have:=Mi ht;subst this
       subst h
       obtain ⟨md,hbb,hm3⟩:=k7 hl
       rw[hb] at hbb
       obtain rfl:=Mh hbb
       obtain ⟨t2,es2,m2,d,e3,hd,e4⟩:=hh rfl
       simp only[Box.arr.injEq,true_and] at e3
       obtain ⟨rfl,rfl,rfl⟩:=e3
       refine ⟨e.AS _ _,fun _ _=>rfl,fun ef hef _ F' bx' θ' hf=>?_⟩
       show aj T F' w bx' θ' (.c _ (ef.xs.reverse.getD e.xs.length .nil)) _
       rw[gn hef.xs]
       have hz:=hf.fz b (hef.fz _ (Mz ..)) _ _ _ _ hb hm3
       rcases e4 with ⟨rfl,h1,rfl⟩|⟨h0,h1,g,og,cap,h2,rfl⟩
       ·rw[ai]
        have:decide (0<=ix)=false:=by simp;omega
        rw[this]
        exact .c _ _ _ (.pt0 _)
       ·have hx:sif nb (cond (decide (0<=ix)) (C.p (es.getD ix.toNat [])) .nil) (.p (es.getD ix.toNat []))=.p (es.getD ix.toNat []):=by
         have:decide (0<=ix)=true:=by simp;omega
         rw[this];cases nb<;>rfl
        rw[hx]
        refine .c _ _ _ ?_
        rw[h2] at hz
        generalize hgz:Value.slice (some ⟨g,og,none⟩) es.length cap=z at hz
        have hlt:ix.toNat<es.length:=by omega
        cases hz with
        |sl0=>simp at hlt
        |sl _ d' _ g' o' cap' cv hd' hF hcap hlen hc hr=>
         simp only[ML,Mj,Addr.mk.injEq] at hgz
         obtain ⟨⟨rfl,rfl,_⟩,_,_⟩:=hgz
         rw[hd] at hd'
         obtain rfl:=Mh hd'
         have hrow:es[ix.toNat]?=some (es.getD ix.toNat []):=by simp[Mm,Mg hlt]
         refine .pt t d _ g (og+(ix.toNat*d.cts.length+0)) (fun j=>cv ix.toNat j) hd hF (hlen _ _ hrow) (fun j c hj=>?_) fun j c ct hj hct=>hr _ _ _ _ _ hrow hj hct
         have:=hc _ _ _ _ hrow hj
         rw[←this]
         congr 2
         omega
     ·simp at h
   |_=>cases off<;>exact absurd (show (none:Option Ex)=some e' from h) (by simp)
  |fa cts cs off g o cv hF hlen hc hr=>
   cases t with
   |pt t=>
    cases off with
    |succ off=>exact absurd (show (none:Option Ex)=some e' from h) (by simp)
    |zero=>
     replace h:(match bj T t with
      |some d=>sif (qn cts d.cts) (some (⟨.p cs::e.xs,e.r,e.fz⟩:Ex)) none
      |none=>none)=some e':=h
     split at h
     ·rename_i d hd
      cases hq:qn cts d.cts with
      |false=>simp[hq,sif] at h
      |true=>
       rw[hq,ai] at h
       have:=yJ hq
       subst this
       simp only[Mj] at h
       subst h
       refine ⟨e.push _,fun _ _=>rfl,fun ef hef _ F' bx' θ' hf=>?_⟩
       show aj T F' w bx' θ' (.c _ (ef.xs.reverse.getD e.xs.length .nil)) _
       rw[gn hef.xs]
       exact .c _ _ _ ((cE.pt t d cs g o cv hd hF hlen hc hr).mv hf.F fun _ _=>rfl)
     ·simp at h
   |_=>cases off<;>exact absurd (show (none:Option Ex)=some e' from h) (by simp)
  |np=>
   cases t with
   |pt t=>
    replace h:some (⟨.nil::e.xs,e.r,e.fz⟩:Ex)=some e':=h
    simp only[Mj] at h
    subst h
    refine ⟨e.push _,fun _ _=>rfl,fun ef hef _ F' bx' θ' hf=>?_⟩
    show aj T F' w bx' θ' (.c _ (ef.xs.reverse.getD e.xs.length .nil)) _
    rw[gn hef.xs]
    exact .c _ _ _ (.pt0 _)
   |_=>exact absurd (show (none:Option Ex)=some e' from h) (by simp)
  |ow b ver v y hb hv hs hh=>
   cases t with
   |sl t=>
    replace h:(match du bx b ver with
     |some (t',es)=>sif (Nat.beq t t') (some (⟨.l es::e.xs,e.r,b::e.fz⟩:Ex)) none
     |none=>none)=some e':=h
    split at h
    ·rename_i t' es hl
     cases ht:Nat.beq t t' with
     |false=>simp[ht,sif] at h
     |true=>
      simp[ht,sif] at h
      subst h
      have:=Mi ht;subst this
      obtain ⟨md,hbb,hm3⟩:=k7 hl
      rw[hb] at hbb
      obtain rfl:=Mh hbb
      obtain ⟨t2,es2,m2,_,rfl⟩:=hh rfl
      refine ⟨e.AS _ _,fun _ _=>rfl,fun ef hef _ F' bx' θ' hf=>?_⟩
      show aj T F' w bx' θ' (.c _ (ef.xs.reverse.getD e.xs.length .nil)) _
      rw[gn hef.xs]
      exact .c _ _ _ (hf.fz b (hef.fz _ (Mz ..)) _ _ _ _ hb hm3)
    ·simp at h
   |_=>exact absurd (show (none:Option Ex)=some e' from h) (by simp)
  |_=>cases t<;>exact absurd (show (none:Option Ex)=some e' from h) (by simp)
 |.ow n,v,val,e,e',hv,h=>by
  cases hv with
  |ow b ver v y hb hv hs hh=>
   replace h:(match du bx b ver with
    |some _=>e.put n (some b)
    |none=>none)=some e':=h
   split at h
   ·rename_i q hl
    obtain ⟨t,es⟩:=q
    obtain ⟨md,hbb,hm3⟩:=k7 hl
    rw[hb] at hbb
    obtain rfl:=Mh hbb
    obtain ⟨t2,es2,m2,_,rfl⟩:=hh rfl
    obtain ⟨p1,p2,p3,p4⟩:=oi h
    refine ⟨p1,fun _ _=>by rw[p3];rfl,fun ef hef hn F' bx' θ' hf=>?_⟩
    obtain ⟨x,x',q1,q2,q3,q4,q5⟩:=hf.nm n b hn (hef.r _ _ p2)
    rw[hb] at q1;obtain rfl:=Mh q1
    cases x' with
    |arr v' t' es' m'=>
     simp only[Box.ver] at q3;subst q3
     exact .ow n 0 _ _ q2 (Mp _) hs fun _=>⟨t',es',m',rfl,q5.symm⟩
    |_=>exact q4.elim
   ·simp at h
  |nl=>
   replace h:e.put n none=some e':=h
   obtain ⟨p1,p2,p3,p4⟩:=oi h
   refine ⟨p1,fun _ _=>by rw[p3];rfl,fun ef hef hn F' bx' θ' hf=>?_⟩
   obtain ⟨t,m0,q1,q2⟩:=hf.no n hn (hef.r _ _ p2)
   exact .ow n 0 _ _ q1 (Mp _) ⟨_,_,_,rfl⟩ fun _=>⟨t,[],m0,rfl,q2.symm⟩
  |_=>exact absurd (show (none:Option Ex)=some e' from h) (by simp)
 |.mp n,v,val,e,e',hv,h=>by
  cases hv with
  |mp b ver v y hb hv hs hh=>
   replace h:(match bx b with
    |some (.mp v _ _)=>sif (Nat.beq v ver) (e.put n (some b)) none
    |_=>none)=some e':=h
   rw[hb] at h
   cases y with
   |mp v' t es=>
    replace h:sif (Nat.beq v' ver) (e.put n (some b)) none=some e':=h
    cases hc:Nat.beq v' ver with
    |false=>simp[hc,sif] at h
    |true=>
     rw[hc,ai] at h
     have e2:=Mi hc;subst e2
     obtain ⟨t2,es2,e3,rfl⟩:=hh rfl
     obtain ⟨p1,p2,p3,p4⟩:=oi h
     refine ⟨p1,fun _ _=>by rw[p3];rfl,fun ef hef hn F' bx' θ' hf=>?_⟩
     obtain ⟨x,x',q1,q2,q3,q4,q5⟩:=hf.nm n b hn (hef.r _ _ p2)
     rw[hb] at q1;obtain rfl:=Mh q1
     cases x' with
     |mp v2 t3 es3=>
      simp only[Box.ver] at q3;subst q3
      exact .mp n 0 _ _ q2 (Mp _) hs fun _=>⟨t3,es3,rfl,q5.symm⟩
     |_=>exact q4.elim
   |_=>exact absurd (show (none:Option Ex)=some e' from h) (by simp)
  |_=>exact absurd (show (none:Option Ex)=some e' from h) (by simp)
 |.pt n o,v,val,e,e',hv,h=>by
  cases hv with
  |pt b ver o' v y hb hv hs hh=>
   replace h:(match bx b with
    |some (.var v _ _)=>sif (az (Nat.beq o o') (Nat.beq v ver)) (e.put n (some b)) none
    |_=>none)=some e':=h
   rw[hb] at h
   cases y with
   |var v' t cells=>
    replace h:sif (az (Nat.beq o o') (Nat.beq v' ver)) (e.put n (some b)) none=some e':=h
    cases hc:az (Nat.beq o o') (Nat.beq v' ver) with
    |false=>simp[hc,sif] at h
    |true=>
     rw[hc,ai] at h
     simp only[ao,Mk] at hc
     have e1:=Mi hc.1;subst e1
     have e2:=Mi hc.2;subst e2
     obtain ⟨t2,cells2,g,e3,e4,rfl⟩:=hh rfl
     obtain ⟨p1,p2,p3,p4⟩:=oi h
     refine ⟨p1,fun _ _=>by rw[p3];rfl,fun ef hef hn F' bx' θ' hf=>?_⟩
     obtain ⟨x,x',q1,q2,q3,q4,q5⟩:=hf.nm n b hn (hef.r _ _ p2)
     rw[hb] at q1;obtain rfl:=Mh q1
     cases x' with
     |var v2 t3 cells3=>
      simp only[Box.ver] at q3;subst q3
      exact .pt n 0 o _ _ q2 (Mp _) hs fun _=>⟨t3,cells3,g,rfl,by rw[q5,e4],rfl⟩
     |_=>exact q4.elim
   |_=>exact absurd (show (none:Option Ex)=some e' from h) (by simp)
  |_=>exact absurd (show (none:Option Ex)=some e' from h) (by simp)
 |.pe n o,v,val,e,e',hv,h=>by
  cases hv with
  |pe b ver ix o' nb v y hb hv hs hh=>
   replace h:(match du bx b ver with
    |some _=>sif (Nat.beq o o') (Ex.put ⟨.i ix::e.xs,e.r,e.fz⟩ n (some b)) none
    |none=>none)=some e':=h
   split at h
   ·rename_i q hl
    obtain ⟨t,es⟩:=q
    obtain ⟨md,hbb,hm3⟩:=k7 hl
    rw[hb] at hbb
    obtain rfl:=Mh hbb
    cases hc:Nat.beq o o' with
    |false=>simp[hc,sif] at h
    |true=>
     rw[hc,ai] at h
     have e1:=Mi hc;subst e1
     obtain ⟨t2,es2,m2,d,e3,hd,e4⟩:=hh rfl
     simp only[Box.arr.injEq,true_and] at e3
     obtain ⟨rfl,rfl,rfl⟩:=e3
     obtain ⟨p1,p2,p3,p4⟩:=oi h
     refine ⟨(e.push _).le_trans p1,fun _ _=>by rw[p3];rfl,fun ef hef hn F' bx' θ' hf=>?_⟩
     obtain ⟨x,x',q1,q2,q3,q4,q5⟩:=hf.nm n b hn (hef.r _ _ p2)
     rw[hb] at q1;obtain rfl:=Mh q1
     have hx:ef.xs.reverse.getD e.xs.length .nil=.i ix:=gn (by have:=hef.xs;rw[p3] at this;exact this)
     cases x' with
     |arr v' t' es' m'=>
      simp only[Box.ver] at q3;subst q3
      obtain ⟨rfl,hlen⟩:=q4
      show aj T F' w bx' θ' (.pe n 0 (ef.xs.reverse.getD e.xs.length .nil).I o true) _
      rw[hx]
      refine .pe n 0 ix o true _ _ q2 (Mp _) hs fun _=>⟨t,es',m',d,rfl,hd,?_⟩
      rcases e4 with ⟨_,h1,h2⟩|⟨h0,h1,g,og,cap,h2,h3⟩
      ·exact .inl ⟨rfl,h1,h2⟩
      ·exact .inr ⟨h0,by omega,g,og,cap,by rw[q5,h2,hlen],h3⟩
     |_=>exact q4.elim
   ·simp at h
  |np=>
   replace h:(match e.r.find n with
    |some (some b)=>match bx b with
     |some (.arr _ _ _ _)=>some (⟨.i (-1)::e.xs,e.r,e.fz⟩:Ex)
     |_=>none
    |_=>none)=some e':=h
   split at h
   ·rename_i b hfd
    split at h
    ·rename_i v1 t1 es1 m1 hb
     simp only[Mj] at h
     subst h
     refine ⟨e.push _,fun _ _=>rfl,fun ef hef hn F' bx' θ' hf=>?_⟩
     obtain ⟨x,x',q1,q2,q3,q4,q5⟩:=hf.nm n b hn (hef.r _ _ hfd)
     rw[hb] at q1;obtain rfl:=Mh q1
     have hx:ef.xs.reverse.getD e.xs.length .nil=.i (-1):=gn hef.xs
     cases x' with
     |arr v' t' es' m'=>
      simp only[Box.ver] at q3;subst q3
      obtain ⟨rfl,hlen⟩:=q4
      obtain ⟨d,hd⟩:=hK.knT b v1 _ es1 m1 hb
      show aj T F' w bx' θ' (.pe n 0 (ef.xs.reverse.getD e.xs.length .nil).I o true) _
      rw[hx]
      exact .pe n 0 (-1) o true _ _ q2 (Mp _) ⟨_,rfl⟩ fun _=>⟨_,es',m',d,rfl,hd,.inl ⟨rfl,by decide,rfl⟩⟩
     |_=>exact q4.elim
    ·simp at h
   ·simp at h
  |_=>exact absurd (show (none:Option Ex)=some e' from h) (by simp)
 |.st ts,v,val,e,e',hv,h=>by
  cases hv with
  |ag vs o vals hl ho hr=>
   cases o with
   |some x=>
    replace h:sif (ll ts vs) (some (⟨x::e.xs,e.r,e.fz⟩:Ex)) none=some e':=h
    cases hc:ll ts vs with
    |false=>simp[hc,sif] at h
    |true=>
     rw[hc,ai] at h
     simp only[Mj] at h
     subst h
     obtain ⟨cs,rfl,q1,q2⟩:=ho _ rfl
     obtain ⟨p1,p2⟩:=tn hc
     refine ⟨e.push _,fun _ _=>rfl,fun ef hef _ F' bx' θ' hf=>?_⟩
     show aj T F' w bx' θ' (.ag (eM ts (ef.xs.reverse.getD e.xs.length .nil).P 0 (len ts)) (some (ef.xs.reverse.getD e.xs.length .nil))) _
     rw[gn hef.xs]
     show aj T F' w bx' θ' (.ag (eM ts cs 0 (len ts)) (some (.p cs))) _
     refine E5 (by omega) (by omega) fun i c t u a1 a2 a3=>?_
     have hi:i<vs.length:=by rw[p1];exact (Ml.1 a2).1
     obtain ⟨t',c',b1,b2⟩:=p2 i _ (Mg hi)
     obtain ⟨t2,b3⟩:=q2 i _ (Mg hi)
     rw[b2] at b3
     simp only[V.c.injEq] at b3
     rw[a2] at b1
     have:=hr i _ u (Mg hi) a3
     rw[b2] at this
     cases this with
     |c _ _ _ hx=>
      rw[b3.2,Mm,a1,←Mh b1] at hx
      exact hx.mv hf.F fun _ _=>rfl
   |none=>
    replace h:(match j9 bx ts vs with
     |some (cs,f)=>some (⟨.p cs::e.xs,e.r,app f e.fz⟩:Ex)
     |none=>none)=some e':=h
    split at h
    ·rename_i cs f hcs
     simp only[Mj] at h
     subst h
     refine ⟨e.IS _ _,fun _ _=>rfl,fun ef hef _ F' bx' θ' hf=>?_⟩
     show aj T F' w bx' θ' (.ag (eM ts (ef.xs.reverse.getD e.xs.length .nil).P 0 (len ts)) (some (ef.xs.reverse.getD e.xs.length .nil))) _
     rw[gn hef.xs]
     obtain ⟨l1,l2⟩:=xP (T:=T) (F:=F) (F':=F') (w:=w) (θ:=θ) hcs
     have l3:=l2 hf.F (fun c hc=>hf.fz c (hef.fz _ (by rw[fP];exact List.mem_append_left _ hc)))
     have hlen:=C2 hcs
     refine E5 l1 (by omega) fun i c t u a1 a2 a3=>?_
     obtain ⟨x,b1,b2⟩:=l3 i c t a1 a2
     exact b2 u (hr i x u b1 a3)
    ·simp at h
  |_=>exact absurd (show (none:Option Ex)=some e' from h) (by simp)
 |.ag q,v,val,e,e',hv,h=>by
  cases hv with
  |ag vs _ vals hl _ hr=>
   replace h:Sk.exts T bx q vs e=some e':=h
   obtain ⟨h1,h2,h3,h4⟩:=uv q vs vals e e' hl hr h
   refine ⟨h1.1,fun nm xs=>h2 nm xs,fun ef hef hn F' bx' θ' hf=>?_⟩
   exact .ag _ _ _ (by rw[bD,hl,h1.2]) w8 (h4 ef hef hn F' bx' θ' hf)
  |_=>exact absurd (show (none:Option Ex)=some e' from h) (by simp)
 |.tu q,v,val,e,e',hv,h=>by
  cases hv with
  |tu vs vals hl hr=>
   replace h:Sk.exts T bx q vs e=some e':=h
   obtain ⟨h1,h2,h3,h4⟩:=uv q vs vals e e' hl hr h
   refine ⟨h1.1,fun nm xs=>h2 nm xs,fun ef hef hn F' bx' θ' hf=>?_⟩
   exact .tu _ _ (by rw[bD,hl,h1.2]) (h4 ef hef hn F' bx' θ' hf)
  |_=>exact absurd (show (none:Option Ex)=some e' from h) (by simp)
 |.fn f q,v,val,e,e',hv,h=>by
  cases hv with
  |fn f' vs vals hl hr=>
   replace h:sif (Nat.beq f f') (Sk.exts T bx q vs e) none=some e':=h
   cases hc:Nat.beq f f' with
   |false=>simp[hc,sif] at h
   |true=>
    rw[hc,ai] at h
    have e1:=Mi hc;subst e1
    obtain ⟨h1,h2,h3,h4⟩:=uv q vs vals e e' hl hr h
    refine ⟨h1.1,fun nm xs=>h2 nm xs,fun ef hef hn F' bx' θ' hf=>?_⟩
    exact .fn _ _ _ (by rw[bD,hl,h1.2]) (h4 ef hef hn F' bx' θ' hf)
  |_=>exact absurd (show (none:Option Ex)=some e' from h) (by simp)
theorem uv:∀(ks:List Sk) (vs:List V) (vals:List Value) (e e':Ex),vals.length=vs.length->(∀(i:Nat) (x:V) (v:Value),vs[i]?=some x->vals[i]?=some v->aj T F w bx θ x v)->
  Sk.exts T bx ks vs e=some e'->(e.le e'/\vs.length=ks.length)/\(∀nm xs,(Sk.insts nm xs ks e.xs.length).2=e'.xs.length)/\True/\
  ∀ef,e'.le ef->Sk.s8 l ks=true->∀F' bx' θ',Fin T F w bx θ F' bx' θ' l ef->∀(i:Nat) (x:V) (v:Value),(Sk.insts nm0 ef.xs.reverse ks e.xs.length).1[i]?=some x->vals[i]?=some v->aj T F' w bx' θ' x v
 |[],[],vals,e,e',hl,hr,h=>by
  replace h:some e=some e':=h
  simp only[Mj] at h
  subst h
  exact ⟨⟨Ex.le_refl _,rfl⟩,fun _ _=>rfl,trivial,fun ef _ _ F' bx' θ' _ i x v hi=>by simp[Sk.insts] at hi⟩
 |[],_::_,vals,e,e',hl,hr,h=>absurd (show (none:Option Ex)=some e' from h) (by simp)
 |_::_,[],vals,e,e',hl,hr,h=>absurd (show (none:Option Ex)=some e' from h) (by simp)
 |k::ks,v::vs,[],e,e',hl,hr,h=>by simp at hl
 |k::ks,v::vs,u::us,e,e',hl,hr,h=>by
  replace h:(match k.ext T bx v e with
   |some e1=>Sk.exts T bx ks vs e1
   |none=>none)=some e':=h
  split at h
  ·rename_i e1 h1
   obtain ⟨a1,a2,a3⟩:=HV k v u e e1 (hr 0 v u rfl rfl) h1
   obtain ⟨⟨b1,b0⟩,b2,b3,b4⟩:=uv ks vs us e1 e' (by simpa using hl) (fun i x w h1 h2=>hr (i+1) x w (by simpa using h1) (by simpa using h2)) h
   refine ⟨⟨a1.le_trans b1,by simp[b0]⟩,fun nm xs=>?_,trivial,fun ef hef hn F' bx' θ' hf i x z hi hz=>?_⟩
   ·show (Sk.insts nm xs ks (k.inst nm xs e.xs.length).2).2=_
    rw[a2,b2]
   ·simp only[Sk.s8,ao,Mk] at hn
    cases i with
    |zero=>
     simp[Sk.insts] at hi hz
     subst hi;subst hz
     exact a3 ef (b1.le_trans hef) hn.1 F' bx' θ' hf
    |succ i=>
     simp only[Sk.insts,M4] at hi hz
     rw[a2] at hi
     exact b4 ef hef hn.2 F' bx' θ' hf i x z hi hz
  ·simp at h
end
end
end Go.Ev
namespace Go.Ev
section
variable {T:Tys} {F F':Nat->Prop} {w:World} {bx bx':Bxs} {θ θ':Nat->Value} {l:List (Nat×BSk)}
theorem yv (hT:KnB T F w bx θ) {ρ:cu} {val:Nat->Value} (hr:∀d,aj T F w bx θ (ρ d) (val d)):∀(q:List (Nat×Sk)) (e e':Ex),rB T ⟨ρ,bx⟩ q e=some e'->
  e.le e'/\(∀nm xs f,(cy nm xs q e.xs.length f).2=e'.xs.length)/\
  ∀ef,e'.le ef->px l q=true->∀F' bx' θ',Fin T F w bx θ F' bx' θ' l ef->∀f:cu,(∀d,aj T F' w bx' θ' (f d) (val d))->∀d,aj T F' w bx' θ' ((cy nm0 ef.xs.reverse q e.xs.length f).1 d) (val d)
 |[],e,e',h=>by
  replace h:some e=some e':=h
  simp only[Mj] at h
  subst h
  exact ⟨Ex.le_refl _,fun _ _ _=>rfl,fun ef _ _ F' bx' θ' _ f hf d=>hf d⟩
 |(d,k)::r,e,e',h=>by
  replace h:(match k.ext T bx (ρ d) e with
   |some e1=>rB T ⟨ρ,bx⟩ r e1
   |none=>none)=some e':=h
  split at h
  ·rename_i e1 h1
   obtain ⟨a1,a2,a3⟩:=HV (l:=l) hT k (ρ d) (val d) e e1 (hr d) h1
   obtain ⟨b1,b2,b3⟩:=yv hT hr r e1 e' h
   refine ⟨a1.le_trans b1,fun nm xs f=>?_,fun ef hef hn F' bx' θ' hF f hf=>?_⟩
   ·show (cy nm xs r (k.inst nm xs e.xs.length).2 _).2=_
    rw[a2,b2]
   ·simp only[px,ao,Mk] at hn
    show ∀d',aj T F' w bx' θ' ((cy nm0 ef.xs.reverse r (k.inst nm0 ef.xs.reverse e.xs.length).2 _).1 d') (val d')
    rw[a2]
    refine b3 ef hef hn.2 F' bx' θ' hF _ fun d'=>?_
    by_cases hd:d'=d
    ·subst hd
     rw[ar]
     exact a3 ef (b1.le_trans hef) hn.1 F' bx' θ' hF
    ·rw[aY _ _ hd];exact hf d'
  ·simp at h
def Shape (bx:Bxs) (r:Ren) (n:Nat) (x':Box):Prop:=
 x'.ver=0/\((∃b x,r.find n=some (some b)/\bx b=some x/\x.same x'/\mok x'.m x.m=true/\∀t es,x'=.arr 0 t es x'.m->∃v,x=.arr v t es x.m)∨(r.find n=some none/\∃t m,x'=.arr 0 t [] m))
theorem tY {m m':Nat} (h:mok m m'=true):(2<=m↔2<=m')/\m≠3/\m'≠3:=by
 unfold mok at h
 split at h<;>simp_all
theorem Kc {m m':Nat} (h:mok m m'=true) (h0:m≠0):m'≠0:=by
 unfold mok at h
 split at h<;>simp_all
theorem yL {m m':Nat} (h:mok m m'=true) (h0:m'≠4) (h2:m=2):m'=2:=by
 unfold mok at h
 split at h<;>simp_all
theorem Lm {m m':Nat} (h:mok m m'=true):m<=2:=by
 unfold mok at h
 split at h<;>simp_all
theorem CR.cast {m m':Nat} {t:CT} {c:C} {v:Value} (hm:mok m m'=true) (h:CR T F w m' t c v):CR T F w m t c v:=by
 by_cases h2:2<=m
 ·rw[C0 h2 (tY hm).2.1]
  rw[C0 ((tY hm).1.1 h2) (tY hm).2.2] at h
  exact h
 ·rw[rE h2]
  rw[rE (fun e=>h2 ((tY hm).1.2 e))] at h
  exact h
theorem cU (b n:Nat) (k:BSk) (r:List (Nat×BSk)):bL ((b,k)::r) n=true↔b=n∨bL r n=true:=by
 simp only[bL,kN,MX]
 refine or_congr ⟨Mi,fun h=>?_⟩ Iff.rfl
 subst h;exact Nat.beq_refl _
theorem knT {fr:Fr} (hw:WR T fr F w bx θ):KnB T F w bx θ:=fun b x hb=>hw.box b x hb
theorem qR {fr:Fr} (hw:WR T fr F w bx θ):∀(q:List (Nat×BSk)) (e e':Ex),ic T bx q e=some e'->
  e.le e'/\
  (∀ef,e'.le ef->∀f:Bxs,(∀n,bL q n=true->∃x',ck nm0 ef.xs.reverse q e.xs.length f n=some x'/\Shape bx ef.r n x')/\(∀n,¬bL q n=true->ck nm0 ef.xs.reverse q e.xs.length f n=f n))/\
  ∀ef,e'.le ef->iW l q=true->bxT T q=true->∀F' bx' θ',Fin T F w bx θ F' bx' θ' l ef->(∀n b,ef.r.find n=some (some b)->θ' n=θ b)->(∀n,ef.r.find n=some none->θ' n=.slice none 0 0)->∀f:Bxs,∀n x',bL q n=true->ck nm0 ef.xs.reverse q e.xs.length f n=some x'->iZ T F' w bx' θ' n x'
 |[],e,e',h=>by
  replace h:some e=some e':=h
  simp only[Mj] at h
  subst h
  exact ⟨Ex.le_refl _,fun ef _ f=>⟨fun n hn=>by simp[bL] at hn,fun n _=>rfl⟩,fun ef _ _ _ F' bx' θ' _ _ _ f n x' hn=>by simp[bL] at hn⟩
 |(n,.var t cells)::r,e,e',h=>by
  replace h:(match e.r.find n with
   |some (some b)=>match bx b with
    |some (.var _ t' vs)=>match sif (Nat.beq t t') (Sk.exts T bx cells vs e) none with
     |some e'=>ic T bx r e'
     |none=>none
    |_=>none
   |_=>none)=some e':=h
  split at h
  ·rename_i b hb
   split at h
   ·rename_i v t' vs hbb
    cases hc:Nat.beq t t' with
    |false=>simp[hc,sif] at h
    |true=>
     rw[hc,ai] at h
     have e1:=Mi hc;subst e1
     split at h
     ·rename_i e1 h1
      obtain ⟨g,cs,te,d,q1,q2,q3,q4,q5,q6⟩:=hw.box b _ hbb
      obtain ⟨⟨a1,a0⟩,a2,_,a4⟩:=uv (l:=l) (knT hw) cells vs cs.toList e e1 (by simpa using q3) (fun i x v h1 h2=>q6 i x v h1 (by simpa using h2)) h1
      obtain ⟨b1,b2,b3⟩:=qR hw r e1 e' h
      have hinst:∀(ef:Ex) (f:Bxs),ck nm0 ef.xs.reverse ((n,.var t cells)::r) e.xs.length f=ck nm0 ef.xs.reverse r e1.xs.length (upd f n (some (.var 0 t (Sk.insts nm0 ef.xs.reverse cells e.xs.length).1))):=by
       intro ef f
       show ck nm0 ef.xs.reverse r (Sk.insts nm0 ef.xs.reverse cells e.xs.length).2 _=_
       rw[a2];rfl
      have hfind:∀ef,e'.le ef->ef.r.find n=some (some b):=fun ef hef=>((a1.le_trans b1).le_trans hef).r _ _ hb
      refine ⟨a1.le_trans b1,fun ef hef f=>?_,fun ef hef hn hT F' bx' θ' hF hθ hθn f m x' hm hx=>?_⟩
      ·rw[hinst]
       obtain ⟨c1,c2⟩:=b2 ef hef (upd f n (some (.var 0 t (Sk.insts nm0 ef.xs.reverse cells e.xs.length).1)))
       refine ⟨fun m hm=>?_,fun m hm=>?_⟩
       ·by_cases hr:bL r m=true
        ·exact c1 m hr
        ·have:n=m:=((cU _ _ _ _).1 hm).resolve_right hr
         subst this
         refine ⟨_,by rw[c2 n hr,ar],rfl,.inl ⟨b,_,hfind ef hef,hbb,?_,rfl,fun t es h=>by simp at h⟩⟩
         show vs.length=_
         rw[bD];exact a0
       ·have hm':=fun h=>hm ((cU _ _ _ _).2 h)
        rw[c2 m (fun h=>hm' (.inr h)),aY _ _ (fun h=>hm' (.inl h.symm))]
      ·simp only[iW,ao,Mk] at hn
       have hT':bxT T r=true:=by
        simp only[bxT] at hT
        split at hT
        ·exact hT
        ·simp at hT
       rw[hinst] at hx
       by_cases hr:bL r m=true
       ·exact b3 ef hef hn.2 hT' F' bx' θ' hF hθ hθn _ m x' hr hx
       ·have:n=m:=((cU _ _ _ _).1 hm).resolve_right hr
        subst this
        rw[(b2 ef hef _).2 n hr,ar] at hx
        obtain rfl:=Mh hx
        refine ⟨g,cs,te,d,by rw[hθ n b (hfind ef hef)];exact q1,q2,by rw[bD,q3,a0],q4,by rw[bD,←a0];exact q5,fun i x v h1 h2=>?_⟩
        exact a4 ef (b1.le_trans hef) hn.1 F' bx' θ' hF i x v h1 (by simpa using h2)
     ·simp at h
   ·simp at h
  ·simp at h
 |(n,.arr t m)::r,e,e',h=>by
  have key:∀(es:List (List C)),ic T bx r ⟨.l es::e.xs,e.r,e.fz⟩=some e'->
    ((∃b v m',e.r.find n=some (some b)/\bx b=some (.arr v t es m')/\mok m m'=true)∨(e.r.find n=some none/\es=[]))->
    e.le e'/\
    (∀ef,e'.le ef->∀f:Bxs,(∀q,bL ((n,.arr t m)::r) q=true->∃x',ck nm0 ef.xs.reverse ((n,.arr t m)::r) e.xs.length f q=some x'/\Shape bx ef.r q x')/\(∀q,¬bL ((n,.arr t m)::r) q=true->ck nm0 ef.xs.reverse ((n,.arr t m)::r) e.xs.length f q=f q))/\
    ∀ef,e'.le ef->iW l ((n,.arr t m)::r)=true->bxT T ((n,.arr t m)::r)=true->∀F' bx' θ',Fin T F w bx θ F' bx' θ' l ef->(∀n b,ef.r.find n=some (some b)->θ' n=θ b)->(∀n,ef.r.find n=some none->θ' n=.slice none 0 0)->∀f:Bxs,∀q x',bL ((n,.arr t m)::r) q=true->ck nm0 ef.xs.reverse ((n,.arr t m)::r) e.xs.length f q=some x'->iZ T F' w bx' θ' q x':=by
   intro es h hcase
   obtain ⟨b1,b2,b3⟩:=qR hw r _ e' h
   have hle:e.le e':=(e.push _).le_trans b1
   have hget:∀ef,e'.le ef->ef.xs.reverse.getD e.xs.length .nil=.l es:=fun ef hef=>gn ((b1.le_trans hef).xs)
   have hinst:∀(ef:Ex) (f:Bxs),e'.le ef->ck nm0 ef.xs.reverse ((n,.arr t m)::r) e.xs.length f=ck nm0 ef.xs.reverse r (C.l es::e.xs).length (upd f n (some (.arr 0 t es m))):=by
    intro ef f hef
    show ck nm0 ef.xs.reverse r (e.xs.length+1) (upd f n (some (.arr 0 t (ef.xs.reverse.getD e.xs.length .nil).L m)))=_
    rw[hget ef hef];rfl
   refine ⟨hle,fun ef hef f=>?_,fun ef hef hn hT F' bx' θ' hF hθ hθn f q x' hm hx=>?_⟩
   ·rw[hinst ef f hef]
    obtain ⟨c1,c2⟩:=b2 ef hef (upd f n (some (.arr 0 t es m)))
    refine ⟨fun q hm=>?_,fun q hm=>?_⟩
    ·by_cases hr:bL r q=true
     ·exact c1 q hr
     ·have:n=q:=((cU _ _ _ _).1 hm).resolve_right hr
      subst this
      refine ⟨_,by rw[c2 n hr,ar],rfl,?_⟩
      rcases hcase with ⟨b,v,m',h1,h2,h3⟩|⟨h1,rfl⟩
      ·exact .inl ⟨b,_,(hle.le_trans hef).r _ _ h1,h2,⟨rfl,rfl⟩,h3,fun t' es' h=>by
        simp only[Box.arr.injEq,true_and] at h
        obtain ⟨rfl,rfl,_⟩:=h
        exact ⟨v,rfl⟩⟩
      ·exact .inr ⟨(hle.le_trans hef).r _ _ h1,t,m,rfl⟩
    ·have hm':=fun h=>hm ((cU _ _ _ _).2 h)
     rw[c2 q (fun h=>hm' (.inr h)),aY _ _ (fun h=>hm' (.inl h.symm))]
   ·replace hn:iW l r=true:=hn
    have hT':(∃d,bj T t=some d)/\bxT T r=true:=by
     simp only[bxT] at hT
     split at hT
     ·rename_i d hd;exact ⟨⟨d,hd⟩,hT⟩
     ·simp at hT
    rw[hinst ef f hef] at hx
    by_cases hr:bL r q=true
    ·exact b3 ef hef hn hT'.2 F' bx' θ' hF hθ hθn _ q x' hr hx
    ·have:n=q:=((cU _ _ _ _).1 hm).resolve_right hr
     subst this
     rw[(b2 ef hef _).2 n hr,ar] at hx
     obtain rfl:=Mh hx
     rcases hcase with ⟨b,v,m',h1,h2,h3⟩|⟨h1,rfl⟩
     ·obtain ⟨d,A,cap,p1,p2,p3,p4⟩:=hw.box b _ h2
      refine ⟨d,A,cap,p1,by rw[hθ n b ((hle.le_trans hef).r _ _ h1)];exact p2,p3,p4.imp id ?_⟩
      rintro ⟨g,o,cs,g1,g2,g3,g4,g5⟩
      exact ⟨g,o,cs,g1,g2,g3,g4,fun i c j x ct v a1 a2 a3 a4=>((g5 i c j x ct v a1 a2 a3 a4).cast h3).mv hF.F (fun _ _=>rfl) fun _ _ _=>rfl⟩
     ·obtain ⟨d,hd⟩:=hT'.1
      exact ⟨d,none,0,hd,by rw[hθn n ((hle.le_trans hef).r _ _ h1)];rfl,fun i c h=>by simp at h,.inl ⟨rfl,rfl,rfl⟩⟩
  replace h:(match e.r.find n with
   |some (some b)=>match bx b with
    |some (.arr _ t' es m')=>sif (az (Nat.beq t t') (mok m m')) (ic T bx r ⟨.l es::e.xs,e.r,e.fz⟩) none
    |_=>none
   |some none=>ic T bx r ⟨.l []::e.xs,e.r,e.fz⟩
   |none=>none)=some e':=h
  split at h
  ·rename_i b hb
   split at h
   ·rename_i v t' es m' hbb
    cases hc:az (Nat.beq t t') (mok m m') with
    |false=>simp[hc,sif] at h
    |true=>
     rw[hc,ai] at h
     rw[ao,Mk] at hc
     have e1:=Mi hc.1;subst e1
     exact key es h (.inl ⟨b,v,m',hb,hbb,hc.2⟩)
   ·simp at h
  ·rename_i hb
   exact key [] h (.inr ⟨hb,rfl⟩)
  ·simp at h
 |(n,.mp t)::r,e,e',h=>by
  have key:∀(es:List (List C)),ic T bx r ⟨.l es::e.xs,e.r,e.fz⟩=some e'->
    (∃b v,e.r.find n=some (some b)/\bx b=some (.mp v t es))->
    e.le e'/\
    (∀ef,e'.le ef->∀f:Bxs,(∀m,bL ((n,.mp t)::r) m=true->∃x',ck nm0 ef.xs.reverse ((n,.mp t)::r) e.xs.length f m=some x'/\Shape bx ef.r m x')/\(∀m,¬bL ((n,.mp t)::r) m=true->ck nm0 ef.xs.reverse ((n,.mp t)::r) e.xs.length f m=f m))/\
    ∀ef,e'.le ef->iW l ((n,.mp t)::r)=true->bxT T ((n,.mp t)::r)=true->∀F' bx' θ',Fin T F w bx θ F' bx' θ' l ef->(∀n b,ef.r.find n=some (some b)->θ' n=θ b)->(∀n,ef.r.find n=some none->θ' n=.slice none 0 0)->∀f:Bxs,∀m x',bL ((n,.mp t)::r) m=true->ck nm0 ef.xs.reverse ((n,.mp t)::r) e.xs.length f m=some x'->iZ T F' w bx' θ' m x':=by
   intro es h hcase
   obtain ⟨b1,b2,b3⟩:=qR hw r _ e' h
   have hle:e.le e':=(e.push _).le_trans b1
   have hget:∀ef,e'.le ef->ef.xs.reverse.getD e.xs.length .nil=.l es:=fun ef hef=>gn ((b1.le_trans hef).xs)
   have hinst:∀(ef:Ex) (f:Bxs),e'.le ef->ck nm0 ef.xs.reverse ((n,.mp t)::r) e.xs.length f=ck nm0 ef.xs.reverse r (C.l es::e.xs).length (upd f n (some (.mp 0 t es))):=by
    intro ef f hef
    show ck nm0 ef.xs.reverse r (e.xs.length+1) (upd f n (some (.mp 0 t (ef.xs.reverse.getD e.xs.length .nil).L)))=_
    rw[hget ef hef];rfl
   refine ⟨hle,fun ef hef f=>?_,fun ef hef hn hT F' bx' θ' hF hθ hθn f m x' hm hx=>?_⟩
   ·rw[hinst ef f hef]
    obtain ⟨c1,c2⟩:=b2 ef hef (upd f n (some (.mp 0 t es)))
    refine ⟨fun m hm=>?_,fun m hm=>?_⟩
    ·by_cases hr:bL r m=true
     ·exact c1 m hr
     ·have:n=m:=((cU _ _ _ _).1 hm).resolve_right hr
      subst this
      refine ⟨_,by rw[c2 n hr,ar],rfl,?_⟩
      obtain ⟨b,v,h1,h2⟩:=hcase
      exact .inl ⟨b,_,(hle.le_trans hef).r _ _ h1,h2,rfl,rfl,fun t es h=>by simp at h⟩
    ·have hm':=fun h=>hm ((cU _ _ _ _).2 h)
     rw[c2 m (fun h=>hm' (.inr h)),aY _ _ (fun h=>hm' (.inl h.symm))]
   ·replace hn:iW l r=true:=hn
    replace hT:bxT T r=true:=hT
    rw[hinst ef f hef] at hx
    by_cases hr:bL r m=true
    ·exact b3 ef hef hn hT F' bx' θ' hF hθ hθn _ m x' hr hx
    ·have:n=m:=((cU _ _ _ _).1 hm).resolve_right hr
     subst this
     rw[(b2 ef hef _).2 n hr,ar] at hx
     obtain rfl:=Mh hx
     obtain ⟨b,v,h1,h2⟩:=hcase
     obtain ⟨q,arr,clk,d,ct,p1,p2,p3,p4,p5⟩:=hw.box b _ h2
     exact ⟨q,arr,clk,d,ct,by rw[hθ n b ((hle.le_trans hef).r _ _ h1)];exact p1,p2,p3,p4,p5⟩
  replace h:(match e.r.find n with
   |some (some b)=>match bx b with
    |some (.mp _ t' es)=>sif (Nat.beq t t') (ic T bx r ⟨.l es::e.xs,e.r,e.fz⟩) none
    |_=>none
   |_=>none)=some e':=h
  split at h
  ·rename_i b hb
   split at h
   ·rename_i v t' es hbb
    cases hc:Nat.beq t t' with
    |false=>simp[hc,sif] at h
    |true=>
     rw[hc,ai] at h
     have e1:=Mi hc;subst e1
     exact key es h ⟨b,v,hb,hbb⟩
   ·simp at h
  ·simp at h
end
end Go.Ev
namespace Go.Ev
section
variable {T:Tys} {fr:Fr} {F:Nat->Prop} {w:World} {bx:Bxs} {θ:Nat->Value}
theorem lQ:∀ {r:Ren} {n b:Nat},r.find n=some (some b)->b∈names r
 |[],n,b,h=>by simp[Ren.find] at h
 |(m,c)::r,n,b,h=>by
  rw[jN] at h
  split at h
  ·simp only[Mj] at h
   subst h
   simp[names]
  ·have:=lQ h
   cases c<;>simp[names,this]
theorem ta:∀ {r:Ren},bM (names r)=true->∀ {n n' b:Nat},r.find n=some (some b)->r.find n'=some (some b)->n=n'
 |[],hd,n,n',b,h,h'=>by simp[Ren.find] at h
 |(m,c)::r,hd,n,n',b,h,h'=>by
  have hd':bM (names r)=true/\∀b',c=some b'->¬b'∈names r:=by
   cases c with
   |none=>exact ⟨hd,fun _ h=>by simp at h⟩
   |some q=>
    simp only[names,bM,ao,cX,Mk,MM] at hd
    refine ⟨hd.2,fun b' hb=>?_⟩
    simp only[Mj] at hb
    subst hb
    intro hm
    rw[(cN _ _).2 hm] at hd
    simp at hd
  rw[jN] at h h'
  split at h
  ·rename_i e1
   split at h'
   ·rename_i e2;exact e1.symm.trans e2
   ·simp only[Mj] at h
    exact absurd (lQ h') (hd'.2 b h)
  ·split at h'
   ·simp only[Mj] at h'
    exact absurd (lQ h) (hd'.2 b h')
   ·exact ta hd'.1 h h'
theorem zY {r:Ren}:∀ {l:List Nat},Fh r l=true->∀b,b∈l->¬b∈names r
 |[],h,b,hb=>by simp at hb
 |c::l,h,b,hb=>by
  simp only[Fh,ao,cX,Mk,MM] at h
  rcases Mw.1 hb with rfl|hb
  ·intro hm;rw[(cN _ _).2 hm] at h;simp at h
  ·exact zY h.2 b hb
def oE (θ:Nat->Value) (r:Ren):Nat->Value:=fun n=>match r.find n with|some (some b)=>θ b|_=>.slice none 0 0
def FzF (T:Tys) (F:Nat->Prop) (w:World) (bx:Bxs) (θ:Nat->Value) (fz:List Nat):Nat->Prop:=fun k=>F k∨∃b x,b∈fz/\bx b=some x/\((x.live=true/\bJ (θ b)=some k)∨x.nst T w (θ b) k)
structure Inj (T:Tys) (F:Nat->Prop) (w:World) (bx:Bxs) (θ:Nat->Value) (val:Nat->Value) (t:Tm) (e:Ex) (σ:St) (F':Nat->Prop) (θ':Nat->Value):Prop where
 sl:∀d,aj T F' w σ.bx θ' (σ.sl d) (val d)
 box:∀b x,σ.bx b=some x->iZ T F' w σ.bx θ' b x
 disj:∀b b' x x' g,σ.bx b=some x->σ.bx b'=some x'->x.live=true->x'.live=true->bJ (θ' b)=some g->bJ (θ' b')=some g->b=b'
 out:∀n x g,σ.bx n=some x->x.live=true->bJ (θ' n)=some g->¬F' g/\∃b y,e.r.find n=some (some b)/\bx b=some y/\y.live=true/\bJ (θ b)=some g
 has:∀n,bL t.bx n=true->∃x',σ.bx n=some x'/\Shape bx e.r n x'
 hasnt:∀n x,σ.bx n=some x->bL t.bx n=true
 lin:∀n x,σ.bx n=some x->x.lin T w (θ' n)
 own:∀n x k,σ.bx n=some x->x.nst T w (θ' n) k->(2<=x.m->¬F' k)/\(¬2<=x.m->F' k)/\(∀n' x',σ.bx n'=some x'->x'.live=true->bJ (θ' n')≠some k)/\∃b y,e.r.find n=some (some b)/\bx b=some y/\(2<=y.m↔2<=x.m)/\y.nst T w (θ b) k
 odj:∀n n' x x' k,σ.bx n=some x->σ.bx n'=some x'->x.nst T w (θ' n) k->x'.nst T w (θ' n') k->n=n'
theorem HG {t:Tm} {ρ:cu} {val:Nat->Value} {r0:Ren} {e:Ex} (hw:WR T fr F w bx θ) (hr:∀d,aj T F w bx θ (ρ d) (val d)) (h:t.ext T r0 ⟨ρ,bx⟩=some e):∀n b,r0.find n=some b->e.r.find n=some b:=by
 unfold Tm.ext at h
 split at h
 ·rename_i e1 h1
  split at h
  ·rename_i e2 h2
   cases hc:az (az (bxT T t.bx) (az (px t.bx t.sl) (iW t.bx t.bx))) (az (bM (names e2.r)) (Fh e2.r e2.fz)) with
   |false=>simp[hc,sif] at h
   |true=>
    rw[hc,ai] at h
    simp only[Mj] at h
    subst h
    have a:=(yv (l:=t.bx) (knT hw) hr t.sl _ e1 h1).1
    have b:=(qR (l:=t.bx) hw t.bx e1 e2 h2).1
    exact (a.le_trans b).r
  ·simp at h
 ·simp at h
theorem vO {t:Tm} {ρ:cu} {val:Nat->Value} {r0:Ren} {e:Ex} (hw:WR T fr F w bx θ) (hr:∀d,aj T F w bx θ (ρ d) (val d)) (h:t.ext T r0 ⟨ρ,bx⟩=some e):
  Inj T F w bx θ val t e (t.inj (rev e.xs [])) (FzF T F w bx θ e.fz) (oE θ e.r):=by
 rw[rev_eq,M1]
 unfold Tm.ext at h
 split at h
 ·rename_i e1 h1
  split at h
  ·rename_i e2 h2
   cases hc:az (az (bxT T t.bx) (az (px t.bx t.sl) (iW t.bx t.bx))) (az (bM (names e2.r)) (Fh e2.r e2.fz)) with
   |false=>simp[hc,sif] at h
   |true=>
    rw[hc,ai] at h
    simp only[Mj] at h
    subst h
    simp only[ao,Mk] at hc
    obtain ⟨⟨hT,hn1,hn2⟩,hnd,hfz⟩:=hc
    obtain ⟨a1,a2,a3⟩:=yv (l:=t.bx) (knT hw) hr t.sl _ e1 h1
    obtain ⟨b1,b2,b3⟩:=qR (l:=t.bx) hw t.bx e1 e2 h2
    have hsl:(t.inj e2.xs.reverse).sl=(cy nm0 e2.xs.reverse t.sl 0 fun _=>.un).1:=rfl
    have hbx:(t.inj e2.xs.reverse).bx=ck nm0 e2.xs.reverse t.bx e1.xs.length fun _=>none:=by
     show ck nm0 e2.xs.reverse t.bx (cy nm0 e2.xs.reverse t.sl 0 fun _=>.un).2 _=_
     have:=a2 nm0 e2.xs.reverse (fun _=>.un)
     simp only[Mo] at this
     rw[this]
    obtain ⟨s1,s2⟩:=b2 e2 (Ex.le_refl _) (fun _=>none)
    rw[←hbx] at s1 s2
    have hshape:∀n x,(t.inj e2.xs.reverse).bx n=some x->bL t.bx n=true/\Shape bx e2.r n x:=by
     intro n x hx
     by_cases hh:bL t.bx n=true
     ·obtain ⟨x',h1,h2⟩:=s1 n hh
      rw[hx] at h1;obtain rfl:=Mh h1
      exact ⟨hh,h2⟩
     ·have:=s2 n hh;rw[hx] at this;simp at this
    have hth:∀n b,e2.r.find n=some (some b)->oE θ e2.r n=θ b:=fun n b h=>by simp[oE,h]
    have hthn:∀n,e2.r.find n=some none->oE θ e2.r n=.slice none 0 0:=fun n h=>by simp[oE,h]
    have hF:Fin T F w bx θ (FzF T F w bx θ e2.fz) (t.inj e2.xs.reverse).bx (oE θ e2.r) t.bx e2:=by
     refine ⟨fun k h=>.inl h,fun b hb x hx hl g hg=>.inr ⟨b,x,hb,hx,.inl ⟨hl,hg⟩⟩,fun b hb ver t' es m hbb hm3=>?_,fun n b hh hf=>?_,fun n hh hf=>?_⟩
     ·by_cases hm0:m=0
      ·subst hm0
       exact pr (hw.box b _ hbb) (fun k h=>.inl h) fun g hg=>.inr ⟨b,_,hb,hbb,.inl ⟨rfl,hg⟩⟩
      ·obtain ⟨l1,l2⟩:=tv hw hbb hm0 hm3
       refine l1.IW fun k hk=>.inr ⟨b,_,hb,hbb,?_⟩
       exact (l2 k hk).imp (fun h=>⟨rfl,h⟩) fun h=>⟨hm0,h⟩
     ·obtain ⟨x',h1,h2,h3⟩:=s1 n hh
      rcases h3 with ⟨b',x,q1,q2,q3,_⟩|⟨q1,_⟩
      ·rw[hf] at q1
       simp only[Mj] at q1
       subst q1
       exact ⟨x,x',q2,h1,h2,q3,hth n b hf⟩
      ·rw[hf] at q1;simp at q1
     ·obtain ⟨x',h1,h2,h3⟩:=s1 n hh
      rcases h3 with ⟨b',x,q1,q2,q3⟩|⟨q1,t',m',rfl⟩
      ·rw[hf] at q1;simp at q1
      ·exact ⟨t',m',h1,hthn n hf⟩
    have hout:∀n x g,(t.inj e2.xs.reverse).bx n=some x->x.live=true->bJ (oE θ e2.r n)=some g->∃b y,e2.r.find n=some (some b)/\bx b=some y/\y.live=true/\bJ (θ b)=some g:=by
     intro n x g hx hl hg
     obtain ⟨h1,h2,h3⟩:=hshape n x hx
     rcases h3 with ⟨b,y,q1,q2,q3,_⟩|⟨q1,t',m',rfl⟩
     ·rw[hth n b q1] at hg
      refine ⟨b,y,q1,q2,?_,hg⟩
      cases y<;>cases x<;>simp_all [Box.same,Box.live]
     ·rw[hthn n q1] at hg;simp[bJ] at hg
    have hnst:∀n x,(t.inj e2.xs.reverse).bx n=some x->x.m≠0->(∃b y t' es v,e2.r.find n=some (some b)/\bx b=some y/\((2<=y.m↔2<=x.m)/\y.m≠0/\y.m≠3)/\x=.arr 0 t' es x.m/\y=.arr v t' es y.m/\oE θ e2.r n=θ b)∨oE θ e2.r n=.slice none 0 0:=by
     intro n x hx hm
     obtain ⟨h1,h2,h3⟩:=hshape n x hx
     rcases h3 with ⟨b,y,q1,q2,q3,q4,q5⟩|⟨q1,t',m',rfl⟩
     ·left
      have hym:=Kc q4 hm
      cases x with
      |arr v t' es m=>
       simp only[Box.ver] at h2;subst h2
       obtain ⟨v',hv'⟩:=q5 t' es rfl
       have hm2:=tY q4
       exact ⟨b,y,t',es,v',q1,q2,⟨hm2.1.symm,hym,hm2.2.2⟩,rfl,hv',hth n b q1⟩
      |_=>exact absurd rfl hm
     ·exact .inr (hthn n q1)
    have hnst2:∀n x k,(t.inj e2.xs.reverse).bx n=some x->x.nst T w (oE θ e2.r n) k->∃b y,e2.r.find n=some (some b)/\bx b=some y/\(2<=y.m↔2<=x.m)/\y.nst T w (θ b) k:=by
     intro n x k hx hk
     have hm:x.m≠0:=by cases x<;>first|exact hk.1|exact hk.elim
     rcases hnst n x hx hm with ⟨b,y,t',es,v,q1,q2,q3,q4,q5,q6⟩|hn
     ·refine ⟨b,y,q1,q2,q3.1,?_⟩
      rw[q4,q6] at hk
      rw[q5];exact ⟨q3.2.1,hk.2⟩
     ·rw[hn] at hk
      cases x<;>first|exact hk.elim|exact absurd hk.2 uc
    refine ⟨?_,?_,?_,?_,fun n hh=>s1 n hh,fun n x hx=>(hshape n x hx).1,fun n x hx=>?_,fun n x k hx hk=>?_,fun n n' x x' k hx hx' hk hk'=>?_⟩
    ·have:=a3 e2 b1 hn1 _ _ _ hF (fun _=>.un) (fun d=>.un _)
     rw[hsl];simpa using this
    ·intro n x hx
     have hh:=(hshape n x hx).1
     rw[hbx] at hx
     have:=b3 e2 (Ex.le_refl _) hn2 hT _ _ _ hF hth hthn (fun _=>none) n x hh hx
     exact this
    ·intro n n' x x' g hx hx' hl hl' hg hg'
     obtain ⟨b,y,q1,q2,q3,q4⟩:=hout n x g hx hl hg
     obtain ⟨b',y',q1',q2',q3',q4'⟩:=hout n' x' g hx' hl' hg'
     have:=hw.disj b b' y y' g q2 q2' q3 q3' q4 q4'
     subst this
     exact ta hnd q1 q1'
    ·intro n x g hx hl hg
     obtain ⟨b,y,q1,q2,q3,q4⟩:=hout n x g hx hl hg
     refine ⟨?_,b,y,q1,q2,q3,q4⟩
     rintro (hF|⟨c,z,c1,c2,⟨c3,c4⟩|c3⟩)
     ·exact (hw.out b y g q2 q3 q4).1 hF
     ·have:=hw.disj b c y z g q2 c2 q3 c3 q4 c4
      subst this
      exact zY hfz b c1 (lQ q1)
     ·exact (hw.own c z g c2 c3).2.2.2.2 b y q2 q3 q4
    ·by_cases hm:x.m=0
     ·cases x<;>first|trivial|exact fun h=>absurd hm h
     ·rcases hnst n x hx hm with ⟨b,y,t',es,v,q1,q2,q3,q4,q5,q6⟩|hn
      ·rw[q4,q6]
       have:=hw.lin b y q2
       rw[q5] at this
       exact fun _=>((this q3.2.1).1 q3.2.2).toM
      ·rw[hn]
       cases x<;>first|trivial|exact fun _=>wI.toM
    ·obtain ⟨b,y,q1,q2,q3,q4⟩:=hnst2 n x k hx hk
     obtain ⟨o1,o2,o3,o4,o5⟩:=hw.own b y k q2 q4
     refine ⟨fun h2=>?_,fun h2=>.inl (o3 fun h=>h2 (q3.1 h)),fun n' x' hx' hl' hg'=>?_,b,y,q1,q2,q3,q4⟩
     ·rintro (h|⟨c,z,c1,c2,⟨c3,c4⟩|c3⟩)
      ·exact o2 (q3.2 h2) h
      ·exact o5 c z c2 c3 c4
      ·have:=hw.odj b c y z k q2 c2 q4 c3
       subst this
       exact zY hfz b c1 (lQ q1)
     ·obtain ⟨b',y',p1,p2,p3,p4⟩:=hout n' x' k hx' hl' hg'
      exact o5 b' y' p2 p3 p4
    ·obtain ⟨b,y,q1,q2,q3,q4⟩:=hnst2 n x k hx hk
     obtain ⟨b',y',p1,p2,p3,p4⟩:=hnst2 n' x' k hx' hk'
     have:=hw.odj b b' y y' k q2 p2 q4 p4
     subst this
     exact ta hnd q1 p1
  ·simp at h
 ·simp at h
theorem E8 (hw:WR T fr F w bx θ) {fz:List Nat}:∀k,FzF T F w bx θ fz k->k<w.heap.size:=by
 rintro k (h|⟨b,x,h1,h2,⟨h3,h4⟩|h3⟩)
 ·exact hw.lt k h
 ·exact (hw.out b x k h2 h3 h4).2.1
 ·exact (hw.own b x k h2 h3).1
theorem Ft (hw:WR T fr F w bx θ) {fz:List Nat}:∀k,FzF T F w bx θ fz k->fr.F0 k∨fr.w0.heap.size<=k∨fr.wr k∨fr.nl k:=by
 rintro k (h|⟨b,x,h1,h2,⟨h3,h4⟩|h3⟩)
 ·exact hw.new k h
 ·exact .inr ((hw.out b x k h2 h3 h4).2.2.imp id .inl)
 ·exact .inr (hw.own b x k h2 h3).2.2.2.1
theorem Inj.wr {val:Nat->Value} {t:Tm} {e:Ex} {σ:St} {st:List Nat} (hw:WR T fr F w bx θ) (h:Inj T F w bx θ val t e σ (FzF T F w bx θ e.fz) (oE θ e.r))
  (hst:∀n,n∈st->∃x,σ.bx n=some x/\(x.ver=0->oE θ e.r n=fr.θ0 n/\(x.m=2->Hdr fr.w0 w (oE θ e.r n)))):WR T ⟨fr.w0,fr.wr,fr.F0,fr.θ0,st,fr.nl⟩ (FzF T F w bx θ e.fz) w σ.bx (oE θ e.r):=by
 refine ⟨h.box,h.disj,fun n x g hx hl hg=>?_,E8 hw,⟨hw.keep.os,hw.keep.tape,hw.keep.output,hw.keep.size,hw.keep.old⟩,fun k hk=>.inl (hw.sub k hk),Ft hw,hst,h.lin,fun n x k hx hk=>?_,h.odj,fun k hk=>.inl (hw.nlF k hk)⟩
 ·obtain ⟨h1,b,y,q1,q2,q3,q4⟩:=h.out n x g hx hl hg
  exact ⟨h1,(hw.out b y g q2 q3 q4).2⟩
 ·obtain ⟨h1,h2,h3,b,y,q1,q2,q3,q4⟩:=h.own n x k hx hk
  obtain ⟨o1,o2,o3,o4,o5⟩:=hw.own b y k q2 q4
  exact ⟨o1,h1,h2,o4,h3⟩
theorem tC:∀ {l:List Nat} {n:Nat},n∈l->Ren.find (xZ l) n=some (some n)
 |[],n,h=>by simp at h
 |m::r,n,h=>by
  show Ren.find ((m,some m)::xZ r) n=_
  rw[jN]
  split
  ·rename_i e;rw[e]
  ·rename_i hne
   rcases Mw.1 h with rfl|h
   ·exact absurd rfl hne
   ·exact tC h
theorem mW {l:List (Nat×BSk)}:∀ {q:List Nat},mR l q=true->∀n,n∈q->bL l n=true
 |[],h,n,hn=>by simp at hn
 |m::q,h,n,hn=>by
  simp only[mR,ao,Mk] at h
  rcases Mw.1 hn with rfl|hn
  ·exact h.1
  ·exact mW h.2 n hn
theorem yZ {bx:Bxs}:∀ {q:List Nat},E7 bx q=true->∀n,n∈q->∃x,bx n=some x/\x.ver=0/\x.m≠4
 |[],h,n,hn=>by simp at hn
 |m::q,h,n,hn=>by
  simp only[E7,ao,Mk] at h
  rcases Mw.1 hn with rfl|hn
  ·have h1:=h.1
   split at h1
   ·rename_i x hx
    simp only[ao,Mk] at h1
    exact ⟨x,hx,Mi h1.1,fun e=>by rw[e] at h1;simp[dY] at h1⟩
   ·simp at h1
  ·exact yZ h.2 n hn
theorem sq {X:Cx} {fr:Fr} {t:Tm} {σ:St} {f:List C->Out} {r:Out} {a:Act} (hst:fr.st=X.ip) (h:qx X t σ f=some r) (hs:Sim X.T fr X.n σ a w):
  ∃xs,r=f xs/\Sim X.T fr X.n (t.inj xs) a w:=by
 obtain ⟨σs,σb⟩:=σ
 unfold qx at h
 cases hj:wP X t ⟨σs,σb⟩ with
 |false=>simp[hj,sif] at h
 |true=>
  rw[hj,ai] at h
  split at h
  ·rename_i xs hxs
   simp only[Mj] at h
   subst h
   refine ⟨xs,rfl,?_⟩
   unfold Tm.data at hxs
   split at hxs
   ·rename_i e he
    simp only[Mj] at hxs
    subst hxs
    obtain ⟨F,θ,hw,hr,hn,hd⟩:=hs
    simp only[wP,ao,Mk] at hj
    have hi:=vO hw hr he
    have hle:=HG hw hr he
    refine ⟨⟨_,_,?_,hi.sl,hn,hd⟩⟩
    have:=hi.wr hw (st:=fr.st) (fun n hn'=>by
     rw[hst] at hn'
     obtain ⟨x,h1,h2,hm4⟩:=yZ hj.1 n hn'
     obtain ⟨x',h3,h4⟩:=hi.has n (mW hj.2.1 n hn')
     refine ⟨x',h3,fun _=>?_⟩
     have hf:=hle n _ (tC hn')
     obtain ⟨y,q1,q2⟩:=hw.stay n (by rw[hst];exact hn')
     replace q1:σb n=some y:=q1
     rw[h1] at q1;obtain rfl:=Mh q1
     simp only[oE,hf]
     refine ⟨(q2 h2).1,fun hm=>(q2 h2).2 ?_⟩
     rcases h4.2 with ⟨b',y',r1,r2,r3,r4,_⟩|⟨r1,_⟩
     ·rw[hf] at r1
      simp only[Mj] at r1
      subst r1
      replace r2:σb n=some y':=r2
      rw[h1] at r2;obtain rfl:=Mh r2
      exact yL r4 hm4 hm
     ·rw[hf] at r1;simp at r1)
    exact this
   ·simp at hxs
  ·simp at h
end
end Go.Ev
namespace Go.Ev
section
variable {T:Tys} {F F':Nat->Prop} {w w':World} {bx bx' bo:Bxs} {θ θ' θo:Nat->Value} {nm:Nm}
structure Rnm (F:Nat->Prop) (w:World) (bo:Bxs) (θo:Nat->Value) (nm:Nm) (F':Nat->Prop) (bx':Bxs) (θ':Nat->Value):Prop where
 F:∀k,F k->F' k
 nm:∀n x,bo n=some x->x.ver=0/\∃x',bx' (nm n).1=some x'/\x'.ver=(nm n).2/\x.same x'/\θ' (nm n).1=θo n
mutual
theorem Hy (h:Rnm F w bo θo nm F' bx' θ') (xs:List C):∀(k:Sk) (p:Nat),(k.inst nm xs p).2=(k.inst nm0 xs p).2/\∀v,aj T F w bo θo (k.inst nm0 xs p).1 v->aj T F' w bx' θ' (k.inst nm xs p).1 v
 |.un,p=>⟨rfl,fun v _=>.un v⟩
 |.d t,p=>⟨rfl,fun v hv=>by
  replace hv:aj T F w bo θo (.c t (xs.getD p .nil)) v:=hv
  cases hv with
  |c t x v hr=>exact .c _ _ _ (hr.mv h.F fun _ _=>rfl)⟩
 |.ow n,p=>⟨rfl,fun v hv=>by
  replace hv:aj T F w bo θo (.ow n 0) v:=hv
  cases hv with
  |ow _ _ v x hb hve hs hh=>
   obtain ⟨h0,x',h1,h2,h3,h4⟩:=h.nm n x hb
   obtain ⟨t,es,m,rfl,rfl⟩:=hh h0.symm
   cases x' with
   |arr v' t' es' m'=>simp only[Box.ver] at h2;subst h2;exact .ow _ _ _ _ h1 (Mp _) hs fun _=>⟨t',es',m',rfl,h4.symm⟩
   |_=>exact h3.elim⟩
 |.mp n,p=>⟨rfl,fun v hv=>by
  replace hv:aj T F w bo θo (.mp n 0) v:=hv
  cases hv with
  |mp _ _ v x hb hve hs hh=>
   obtain ⟨h0,x',h1,h2,h3,h4⟩:=h.nm n x hb
   obtain ⟨t,es,rfl,rfl⟩:=hh h0.symm
   cases x' with
   |mp v' t' es'=>simp only[Box.ver] at h2;subst h2;exact .mp _ _ _ _ h1 (Mp _) hs fun _=>⟨t',es',rfl,h4.symm⟩
   |_=>exact h3.elim⟩
 |.pt n o,p=>⟨rfl,fun v hv=>by
  replace hv:aj T F w bo θo (.pt n 0 o) v:=hv
  cases hv with
  |pt _ _ _ v x hb hve hs hh=>
   obtain ⟨h0,x',h1,h2,h3,h4⟩:=h.nm n x hb
   obtain ⟨t,cells,g,rfl,e1,rfl⟩:=hh h0.symm
   cases x' with
   |var v' t' cells'=>simp only[Box.ver] at h2;subst h2;exact .pt _ _ _ _ _ h1 (Mp _) hs fun _=>⟨t',cells',g,rfl,by rw[h4,e1],rfl⟩
   |_=>exact h3.elim⟩
 |.pe n o,p=>⟨rfl,fun v hv=>by
  replace hv:aj T F w bo θo (.pe n 0 (xs.getD p .nil).I o true) v:=hv
  cases hv with
  |pe _ _ ix _ nb v x hb hve hs hh=>
   obtain ⟨h0,x',h1,h2,h3,h4⟩:=h.nm n x hb
   obtain ⟨t,es,m,d,rfl,hd,hc⟩:=hh h0.symm
   cases x' with
   |arr v' t' es' m'=>
    simp only[Box.ver] at h2;subst h2
    obtain ⟨rfl,hl⟩:=h3
    refine .pe _ _ _ _ _ _ _ h1 (Mp _) hs fun _=>⟨t,es',m',d,rfl,hd,hc.imp id ?_⟩
    rintro ⟨a,b,g,og,cap,e1,e2⟩
    exact ⟨a,by omega,g,og,cap,by rw[h4,e1,hl],e2⟩
   |_=>exact h3.elim⟩
 |.st ts,p=>⟨rfl,fun v hv=>LG h.F hv⟩
 |.ag q,p=>by
  obtain ⟨h1,h2⟩:=uG h xs q p
  refine ⟨h1,fun v hv=>?_⟩
  replace hv:aj T F w bo θo (.ag (Sk.insts nm0 xs q p).1 none) v:=hv
  cases hv with
  |ag l _ vs hl _ hr=>exact .ag _ _ _ (by rw[bD,hl,bD]) w8 (h2 vs hr)
 |.tu q,p=>by
  obtain ⟨h1,h2⟩:=uG h xs q p
  refine ⟨h1,fun v hv=>?_⟩
  replace hv:aj T F w bo θo (.tu (Sk.insts nm0 xs q p).1) v:=hv
  cases hv with
  |tu l vs hl hr=>exact .tu _ _ (by rw[bD,hl,bD]) (h2 vs hr)
 |.fn f q,p=>by
  obtain ⟨h1,h2⟩:=uG h xs q p
  refine ⟨h1,fun v hv=>?_⟩
  replace hv:aj T F w bo θo (.fn f (Sk.insts nm0 xs q p).1) v:=hv
  cases hv with
  |fn _ l vs hl hr=>exact .fn _ _ _ (by rw[bD,hl,bD]) (h2 vs hr)
theorem uG (h:Rnm F w bo θo nm F' bx' θ') (xs:List C):∀(ks:List Sk) (p:Nat),(Sk.insts nm xs ks p).2=(Sk.insts nm0 xs ks p).2/\
  ∀vs:List Value,(∀(i:Nat) (x:V) (v:Value),(Sk.insts nm0 xs ks p).1[i]?=some x->vs[i]?=some v->aj T F w bo θo x v)->∀(i:Nat) (x:V) (v:Value),(Sk.insts nm xs ks p).1[i]?=some x->vs[i]?=some v->aj T F' w bx' θ' x v
 |[],p=>⟨rfl,fun vs _ i x v hx=>by simp[Sk.insts] at hx⟩
 |k::ks,p=>by
  obtain ⟨h1,h2⟩:=Hy h xs k p
  obtain ⟨h3,h4⟩:=uG h xs ks (k.inst nm xs p).2
  refine ⟨?_,fun vs hr i x v hx hv=>?_⟩
  ·show (Sk.insts nm xs ks (k.inst nm xs p).2).2=(Sk.insts nm0 xs ks (k.inst nm0 xs p).2).2
   rw[h3,h1]
  ·cases i with
   |zero=>
    simp[Sk.insts] at hx
    subst hx
    exact h2 v (hr 0 _ v (by simp[Sk.insts]) hv)
   |succ i=>
    cases vs with
    |nil=>simp at hv
    |cons u us=>
     refine h4 us (fun j y z hy hz=>hr (j+1) y z ?_ (by simpa using hz)) i x v (by simpa [Sk.insts] using hx) (by simpa using hv)
     simp only[Sk.insts,M4]
     rw[h1] at hy
     exact hy
end
theorem DG (h:Rnm F w bo θo nm F' bx' θ') (xs:List C):∀(q:List (Nat×Sk)) (p:Nat) (f f':cu),(∀d v,aj T F w bo θo (f d) v->aj T F' w bx' θ' (f' d) v)->
  (cy nm xs q p f').2=(cy nm0 xs q p f).2/\∀d v,aj T F w bo θo ((cy nm0 xs q p f).1 d) v->aj T F' w bx' θ' ((cy nm xs q p f').1 d) v
 |[],p,f,f',hf=>⟨rfl,hf⟩
 |(d,k)::r,p,f,f',hf=>by
  obtain ⟨h1,h2⟩:=Hy (T:=T) h xs k p
  show (cy nm xs r (k.inst nm xs p).2 _).2=(cy nm0 xs r (k.inst nm0 xs p).2 _).2/\∀d' v,aj T F w bo θo ((cy nm0 xs r (k.inst nm0 xs p).2 _).1 d') v->aj T F' w bx' θ' ((cy nm xs r (k.inst nm xs p).2 _).1 d') v
  rw[h1]
  refine DG h xs r _ _ _ fun d' v hv=>?_
  by_cases hd:d'=d
  ·subst hd
   rw[ar] at hv⊢
   exact h2 v hv
  ·rw[aY _ _ hd] at hv⊢
   exact hf d' v hv
mutual
theorem xS (xs:List C):∀(k:Sk) (p:Nat),k.flat=true->∀v,aj T F w bo θo (k.inst nm0 xs p).1 v->aj T F' w' bx' θ' (k.inst nm xs p).1 v/\(k.inst nm xs p).2=(k.inst nm0 xs p).2
 |.un,p,_,v,_=>⟨.un v,rfl⟩
 |.d t,p,hk,v,hv=>by
  replace hv:aj T F w bo θo (.c t (xs.getD p .nil)) v:=hv
  refine ⟨?_,rfl⟩
  cases hv with
  |c t x v hr=>
   refine .c _ _ _ (hr.flat ?_)
   cases t<;>first|rfl|simp[Sk.flat] at hk
 |.ow n,p,hk,_,_=>by simp[Sk.flat] at hk
 |.mp n,p,hk,_,_=>by simp[Sk.flat] at hk
 |.pt n o,p,hk,_,_=>by simp[Sk.flat] at hk
 |.pe n o,p,hk,_,_=>by simp[Sk.flat] at hk
 |.st ts,p,hk,v,hv=>by
  refine ⟨?_,rfl⟩
  replace hk:bF ts=true:=hk
  replace hv:aj T F w bo θo (.ag (eM ts (xs.getD p .nil).P 0 (len ts)) (some (xs.getD p .nil))) v:=hv
  show aj T F' w' bx' θ' (.ag (eM ts (xs.getD p .nil).P 0 (len ts)) (some (xs.getD p .nil))) v
  cases hv with
  |ag _ _ vs hl ho hr=>
   refine .ag _ _ vs hl ho fun i x v a b=>?_
   have:=hr i x v a b
   obtain ⟨h1,h2⟩:=kY ts (xs.getD p .nil).P (len ts) 0
   have hi:i<len ts:=by rw[←h1];exact (Ml.1 a).1
   rw[h2 i hi,My] at a
   rw[←Mh a] at this⊢
   rw[dA] at hi
   cases this with
   |c _ _ _ hc=>exact .c _ _ _ (hc.flat (cH hk _ _ (by rw[Mm,Mg hi];rfl)))
 |.ag q,p,hk,v,hv=>by
  replace hk:Sk.tT q=true:=hk
  replace hv:aj T F w bo θo (.ag (Sk.insts nm0 xs q p).1 none) v:=hv
  cases hv with
  |ag l _ vs hl _ hr=>
   obtain ⟨h1,h2⟩:=Ac xs q p hk vs (by rw[hl,bD]) hr
   exact ⟨.ag _ _ _ (by rw[bD,hl,bD]) w8 h1,h2⟩
 |.tu q,p,hk,v,hv=>by
  replace hk:Sk.tT q=true:=hk
  replace hv:aj T F w bo θo (.tu (Sk.insts nm0 xs q p).1) v:=hv
  cases hv with
  |tu l vs hl hr=>
   obtain ⟨h1,h2⟩:=Ac xs q p hk vs (by rw[hl,bD]) hr
   exact ⟨.tu _ _ (by rw[bD,hl,bD]) h1,h2⟩
 |.fn f q,p,hk,_,_=>by simp[Sk.flat] at hk
theorem Ac (xs:List C):∀(ks:List Sk) (p:Nat),Sk.tT ks=true->∀vs:List Value,vs.length=ks.length->(∀(i:Nat) (x:V) (v:Value),(Sk.insts nm0 xs ks p).1[i]?=some x->vs[i]?=some v->aj T F w bo θo x v)->
  (∀(i:Nat) (x:V) (v:Value),(Sk.insts nm xs ks p).1[i]?=some x->vs[i]?=some v->aj T F' w' bx' θ' x v)/\(Sk.insts nm xs ks p).2=(Sk.insts nm0 xs ks p).2
 |[],p,_,vs,_,_=>⟨fun i x v hx=>by simp[Sk.insts] at hx,rfl⟩
 |k::ks,p,hk,[],hl,hr=>by simp at hl
 |k::ks,p,hk,u::us,hl,hr=>by
  simp only[Sk.tT,ao,Mk] at hk
  obtain ⟨h1,h2⟩:=xS xs k p hk.1 u (hr 0 _ u (by simp[Sk.insts]) rfl)
  obtain ⟨h3,h4⟩:=Ac xs ks (k.inst nm0 xs p).2 hk.2 us (by simpa using hl) (fun i x v hx hv=>hr (i+1) x v (by simpa [Sk.insts] using hx) (by simpa using hv))
  refine ⟨fun i x v hx hv=>?_,?_⟩
  ·cases i with
   |zero=>simp[Sk.insts] at hx hv;subst hx;subst hv;exact h1
   |succ i=>
    simp only[Sk.insts,M4] at hx hv
    rw[h2] at hx
    exact h3 i x v hx hv
  ·show (Sk.insts nm xs ks (k.inst nm xs p).2).2=(Sk.insts nm0 xs ks (k.inst nm0 xs p).2).2
   rw[h2,h4]
end
mutual
theorem Ab (nm:Nm) (xs:List C):∀(k:Sk) (p:Nat),(k.inst nm xs p).2=(k.inst nm0 xs p).2
 |.un,_=>rfl
 |.d _,_=>rfl
 |.st _,_=>rfl
 |.ow _,_=>rfl
 |.mp _,_=>rfl
 |.pt _ _,_=>rfl
 |.pe _ _,_=>rfl
 |.ag q,p=>pb nm xs q p
 |.tu q,p=>pb nm xs q p
 |.fn _ q,p=>pb nm xs q p
theorem pb (nm:Nm) (xs:List C):∀(ks:List Sk) (p:Nat),(Sk.insts nm xs ks p).2=(Sk.insts nm0 xs ks p).2
 |[],_=>rfl
 |k::r,p=>by
  show (Sk.insts nm xs r (k.inst nm xs p).2).2=(Sk.insts nm0 xs r (k.inst nm0 xs p).2).2
  rw[Ab nm xs k,pb nm xs r]
end
def NmR (bo:Bxs) (θo:Nat->Value) (nm:Nm) (bx':Bxs) (θ':Nat->Value):Prop:=∀n x,bo n=some x->x.ver=0/\∃x',bx' (nm n).1=some x'/\x'.ver=(nm n).2/\x.same x'/\θ' (nm n).1=θo n
mutual
theorem F4 (h:NmR bo θo nm bx' θ') (xs:List C):∀(k:Sk) (p:Nat),k.ym=true->∀v,aj T F w bo θo (k.inst nm0 xs p).1 v->aj T F' w' bx' θ' (k.inst nm xs p).1 v
 |.un,p,_,v,_=>.un v
 |.d t,p,hk,v,hv=>by
  replace hv:aj T F w bo θo (.c t (xs.getD p .nil)) v:=hv
  replace hk:bF [t]=true:=hk
  cases hv with
  |c t x v hr=>exact .c _ _ _ (hr.flat (cH hk 0 t rfl))
 |.ow n,p,_,v,hv=>by
  replace hv:aj T F w bo θo (.ow n 0) v:=hv
  cases hv with
  |ow _ _ v x hb hve hs hh=>
   obtain ⟨h0,x',h1,h2,h3,h4⟩:=h n x hb
   obtain ⟨t,es,m,rfl,rfl⟩:=hh h0.symm
   cases x' with
   |arr v' t' es' m'=>simp only[Box.ver] at h2;subst h2;exact .ow _ _ _ _ h1 (Mp _) hs fun _=>⟨t',es',m',rfl,h4.symm⟩
   |_=>exact h3.elim
 |.mp n,p,hk,_,_=>by simp[Sk.ym] at hk
 |.pt n o,p,hk,_,_=>by simp[Sk.ym] at hk
 |.pe n o,p,hk,_,_=>by simp[Sk.ym] at hk
 |.st ts,p,hk,v,hv=>(xS (nm:=nm) (bx':=bx') (θ':=θ') (F':=F') (w':=w') xs (.st ts) p hk v hv).1
 |.ag q,p,hk,v,hv=>by
  replace hk:Sk.s7 q=true:=hk
  replace hv:aj T F w bo θo (.ag (Sk.insts nm0 xs q p).1 none) v:=hv
  cases hv with
  |ag l _ vs hl _ hr=>exact .ag _ _ _ (by rw[bD,hl,bD]) w8 (yd h xs q p hk vs (by rw[hl,bD]) hr)
 |.tu q,p,hk,v,hv=>by
  replace hk:Sk.s7 q=true:=hk
  replace hv:aj T F w bo θo (.tu (Sk.insts nm0 xs q p).1) v:=hv
  cases hv with
  |tu l vs hl hr=>exact .tu _ _ (by rw[bD,hl,bD]) (yd h xs q p hk vs (by rw[hl,bD]) hr)
 |.fn f q,p,hk,_,_=>by simp[Sk.ym] at hk
theorem yd (h:NmR bo θo nm bx' θ') (xs:List C):∀(ks:List Sk) (p:Nat),Sk.s7 ks=true->∀vs:List Value,vs.length=ks.length->(∀(i:Nat) (x:V) (v:Value),(Sk.insts nm0 xs ks p).1[i]?=some x->vs[i]?=some v->aj T F w bo θo x v)->
  ∀(i:Nat) (x:V) (v:Value),(Sk.insts nm xs ks p).1[i]?=some x->vs[i]?=some v->aj T F' w' bx' θ' x v
 |[],p,_,vs,_,_=>fun i x v hx=>by simp[Sk.insts] at hx
 |k::ks,p,hk,[],hl,hr=>by simp at hl
 |k::ks,p,hk,u::us,hl,hr=>by
  simp only[Sk.s7,ao,Mk] at hk
  have h1:=F4 h xs k p hk.1 u (hr 0 _ u (by simp[Sk.insts]) rfl)
  have h3:=yd h xs ks (k.inst nm0 xs p).2 hk.2 us (by simpa using hl) (fun i x v hx hv=>hr (i+1) x v (by simpa [Sk.insts] using hx) (by simpa using hv))
  intro i x v hx hv
  cases i with
  |zero=>simp[Sk.insts] at hx hv;subst hx;subst hv;exact h1
  |succ i=>
   simp only[Sk.insts,M4] at hx hv
   rw[Ab nm xs k] at hx
   exact h3 i x v hx hv
end
theorem ia {f:Bxs}:∀ {l:List (Nat×Box)} {b:Nat},¬b∈bZ l->dL f l b=f b
 |[],b,_=>rfl
 |(c,x)::r,b,h=>by
  simp only[bZ,Mw,not_or] at h
  show dL (upd f c (some x)) r b=f b
  rw[ia h.2,aY _ _ h.1]
theorem pf {f:Bxs}:∀ {l:List (Nat×Box)} {b:Nat} {x:Box},bM (bZ l)=true->(b,x)∈l->dL f l b=some x
 |[],b,x,_,h=>by simp at h
 |(c,y)::r,b,x,hd,h=>by
  simp only[bZ,bM,ao,cX,Mk,MM] at hd
  show dL (upd f c (some y)) r b=some x
  rcases Mw.1 h with e|h
  ·simp only[MG] at e
   obtain ⟨rfl,rfl⟩:=e
   rw[ia (fun hm=>by rw[(cN _ _).2 hm] at hd;simp at hd),ar]
  ·exact pf hd.2 h
theorem rJ:∀ {l:List (Nat×Box)} {b:Nat},b∈bZ l↔∃x,(b,x)∈l
 |[],b=>by simp[bZ]
 |(c,y)::r,b=>by
  simp only[bZ,Mw,rJ (l:=r),MG]
  constructor
  ·rintro (rfl|⟨x,hx⟩)
   ·exact ⟨y,.inl ⟨rfl,rfl⟩⟩
   ·exact ⟨x,.inr hx⟩
  ·rintro ⟨x,⟨rfl,rfl⟩|hx⟩
   ·exact .inl rfl
   ·exact .inr ⟨x,hx⟩
theorem tW (l m:List (Nat×Box)):bZ (l++m)=bZ l++bZ m:=by induction l with|nil=>rfl|cons p r ih=>obtain ⟨b,x⟩:=p;simp[bZ,ih]
def Two (tr:Nat->Bool) (nm:Nm) (xs:List C) (n:Nat) (k:BSk) (x x':Box):Prop:=
 x.ver=0/\x'.ver=(nm n).2/\((∃t ks p,k=.var t ks/\x=.var 0 t (Sk.insts nm0 xs ks p).1/\x'=.var (nm n).2 t (Sk.insts nm xs ks p).1)∨(∃t es m,k=.arr t m/\x=.arr 0 t es m/\x'=.arr (nm n).2 t es (rY (tr t) m))∨∃t es,k=.mp t/\x=.mp 0 t es/\x'=.mp (nm n).2 t es)
theorem CS (tr:Nat->Bool) (nm:Nm) (xs:List C):∀(q:List (Nat×BSk)) (p:Nat) (f:Bxs),bM (bZ (j3 tr nm xs q p))=true->
  (∀n,bL q n=true->∃k x x',(n,k)∈q/\ck nm0 xs q p f n=some x/\((nm n).1,x')∈j3 tr nm xs q p/\Two tr nm xs n k x x')/\
  (∀n,¬bL q n=true->ck nm0 xs q p f n=f n)/\
  (∀b x',(b,x')∈j3 tr nm xs q p->∃n,bL q n=true/\b=(nm n).1)
 |[],p,f,_=>⟨fun n h=>by simp[bL] at h,fun n _=>rfl,fun b x' h=>by simp[j3] at h⟩
 |(m,bk)::r,p,f,hd=>by
  have key:∀(y y':Box) (p2:Nat),(ck nm0 xs ((m,bk)::r) p f=ck nm0 xs r p2 (upd f m (some y)))->(j3 tr nm xs ((m,bk)::r) p=((nm m).1,y')::j3 tr nm xs r p2)->Two tr nm xs m bk y y'->
    (∀n,bL ((m,bk)::r) n=true->∃k x x',(n,k)∈(m,bk)::r/\ck nm0 xs ((m,bk)::r) p f n=some x/\((nm n).1,x')∈j3 tr nm xs ((m,bk)::r) p/\Two tr nm xs n k x x')/\
    (∀n,¬bL ((m,bk)::r) n=true->ck nm0 xs ((m,bk)::r) p f n=f n)/\
    (∀b x',(b,x')∈j3 tr nm xs ((m,bk)::r) p->∃n,bL ((m,bk)::r) n=true/\b=(nm n).1):=by
   intro y y' p2 h1 h2 h3
   rw[h2] at hd
   simp only[bZ,bM,ao,cX,Mk,MM] at hd
   obtain ⟨i1,i2,i3⟩:=CS tr nm xs r p2 (upd f m (some y)) hd.2
   rw[h1,h2]
   refine ⟨fun n hn=>?_,fun n hn=>?_,fun b x' hm=>?_⟩
   ·by_cases hr:bL r n=true
    ·obtain ⟨k,x,x',q1,q2,q3,q4⟩:=i1 n hr
     exact ⟨k,x,x',MF _ q1,q2,MF _ q3,q4⟩
    ·have:m=n:=((cU _ _ _ _).1 hn).resolve_right hr
     subst this
     exact ⟨bk,y,y',Mz ..,by rw[i2 m hr,ar],Mz ..,h3⟩
   ·have hn':=fun h=>hn ((cU _ _ _ _).2 h)
    rw[i2 n (fun h=>hn' (.inr h)),aY _ _ (fun h=>hn' (.inl h.symm))]
   ·rcases Mw.1 hm with e|hm
    ·simp only[MG] at e
     exact ⟨m,(cU _ _ _ _).2 (.inl rfl),e.1⟩
    ·obtain ⟨n,hn,hb⟩:=i3 b x' hm
     exact ⟨n,(cU _ _ _ _).2 (.inr hn),hb⟩
  cases bk with
  |var t ks=>
   refine key (.var 0 t (Sk.insts nm0 xs ks p).1) (.var (nm m).2 t (Sk.insts nm xs ks p).1) (Sk.insts nm xs ks p).2 ?_ rfl ⟨rfl,rfl,.inl ⟨t,ks,p,rfl,rfl,rfl⟩⟩
   show ck nm0 xs r (Sk.insts nm0 xs ks p).2 _=_
   rw[pb nm];rfl
  |arr t md=>exact key (.arr 0 t (xs.getD p .nil).L md) (.arr (nm m).2 t (xs.getD p .nil).L (rY (tr t) md)) (p+1) rfl rfl ⟨rfl,rfl,.inr (.inl ⟨t,_,md,rfl,rfl,rfl⟩)⟩
  |mp t=>exact key (.mp 0 t (xs.getD p .nil).L) (.mp (nm m).2 t (xs.getD p .nil).L) (p+1) rfl rfl ⟨rfl,rfl,.inr (.inr ⟨t,_,rfl,rfl,rfl⟩)⟩
theorem yg (nm:Nm) (xs:List C):∀(q:List (Nat×Sk)) (p:Nat) (f f':cu),(cy nm xs q p f).2=(cy nm0 xs q p f').2
 |[],p,f,f'=>rfl
 |(d,k)::r,p,f,f'=>by
  show (cy nm xs r (k.inst nm xs p).2 _).2=(cy nm0 xs r (k.inst nm0 xs p).2 _).2
  rw[Ab nm xs k]
  exact yg nm xs r _ _ _
theorem yn {bx:Bxs} {out:List (Nat×BSk)}:∀ {r:Ren},(∀n b,r.find n=some (some b)->¬bL out n=true->∃x,(b,Box.dead x)∈na bx out r)/\
  ∀b x,(b,x)∈na bx out r->∃v,x=.dead v/\(∀y,bx b=some y->y.ver<v)
 |[]=>⟨fun n b h=>by simp[Ren.find] at h,fun b x h=>by simp[na] at h⟩
 |(m,none)::r=>by
  obtain ⟨h1,h2⟩:=yn (bx:=bx) (out:=out) (r:=r)
  refine ⟨fun n b h hn=>?_,h2⟩
  rw[jN] at h
  split at h
  ·simp at h
  ·exact h1 n b h hn
 |(m,some c)::r=>by
  obtain ⟨h1,h2⟩:=yn (bx:=bx) (out:=out) (r:=r)
  cases ho:bL out m with
  |true=>
   have e:na bx out ((m,some c)::r)=na bx out r:=by simp[na,ho,sif]
   rw[e]
   refine ⟨fun n b h hn=>?_,h2⟩
   rw[jN] at h
   split at h
   ·rename_i e;subst e;exact absurd ho hn
   ·exact h1 n b h hn
  |false=>
   have e:na bx out ((m,some c)::r)=(c,.dead ((match bx c with|some x=>x.ver|none=>0)+1))::na bx out r:=by
    show sif (bL out m) _ _=_
    rw[ho];rfl
   rw[e]
   refine ⟨fun n b h hn=>?_,fun b x h=>?_⟩
   ·rw[jN] at h
    split at h
    ·simp only[Mj] at h;subst h;exact ⟨_,Mz ..⟩
    ·obtain ⟨x,hx⟩:=h1 n b h hn
     exact ⟨x,MF _ hx⟩
   ·rcases Mw.1 h with e|h
    ·simp only[MG] at e
     obtain ⟨rfl,rfl⟩:=e
     exact ⟨_,rfl,fun y hy=>by rw[hy];exact Nat.lt_succ_self _⟩
    ·exact h2 b x h
end
end Go.Ev
namespace Go.Ev
section
variable {P:Program} {T:Tys} {fr:Fr} {F F':Nat->Prop} {w w':World} {bx:Bxs} {θ θ':Nat->Value}
def WrF (T:Tys) (w:World) (bx:Bxs) (θ:Nat->Value) (r:Ren):Nat->Prop:=fun g=>∃n b y,r.find n=some (some b)/\bx b=some y/\((y.live=true/\bJ (θ b)=some g)∨(2<=y.m/\y.nst T w (θ b) g))
def NlF (T:Tys) (w:World) (bx:Bxs) (θ:Nat->Value) (r:Ren):Nat->Prop:=fun g=>∃n b y,r.find n=some (some b)/\bx b=some y/\¬2<=y.m/\y.nst T w (θ b) g
theorem tl (hw:WR T fr F w bx θ) {r:Ren} {ups:List (Nat×Box)} (hnd:bM (bZ ups)=true)
  (kos:w'.os=w.os) (ktp:w'.tape=w.tape) (kou:w'.output=w.output/\w.drawn<=w'.drawn) (ksz:w.heap.size<=w'.heap.size) (kold:∀k,k<w.heap.size->¬WrF T w bx θ r k->w'.heap[k]?=w.heap[k]?)
  (H1:∀b,¬b∈bZ ups->θ' b=θ b) (H2:∀n b,r.find n=some (some b)->b∈bZ ups)
  (H3:∀b x,(b,x)∈ups->x.live=true->iZ T F' w' (dL bx ups) θ' b x/\∀g,bJ (θ' b)=some g->¬F' g/\g<w'.heap.size/\(w.heap.size<=g∨WrF T w bx θ r g))
  (H4:∀b x y,(b,x)∈ups->bx b=some y->y.ver<=x.ver/\(y.ver=x.ver->y.same x/\θ' b=θ b/\(x.m=2->y.m=2/\Hdr w w' (θ b))))
  (H5:∀b b' x x' g,(b,x)∈ups->(b',x')∈ups->x.live=true->x'.live=true->bJ (θ' b)=some g->bJ (θ' b')=some g->b=b')
  (H6:∀b x,(b,x)∈ups->x.lin T w' (θ' b)/\∀k,x.nst T w' (θ' b) k->k<w'.heap.size/\(2<=x.m->¬F' k)/\(¬2<=x.m->F' k)/\(w.heap.size<=k∨WrF T w bx θ r k∨NlF T w bx θ r k)/\∀b' x',(b',x')∈ups->x'.live=true->bJ (θ' b')≠some k)
  (H7:∀b b' x x' k,(b,x)∈ups->(b',x')∈ups->x.nst T w' (θ' b) k->x'.nst T w' (θ' b') k->b=b')
  (c1:∀k,F k->F' k) (c2:∀k,F' k->F k∨w.heap.size<=k∨WrF T w bx θ r k) (c3:∀k,F' k->k<w'.heap.size):
  WR T fr F' w' (dL bx ups) θ'/\Mv F w bx θ F' w' (dL bx ups) θ':=by
 have hFw:∀k,F k->¬WrF T w bx θ r k:=by
  rintro k hk ⟨n,b,y,h1,h2,⟨h3,h4⟩|⟨h3,h4⟩⟩
  ·exact (hw.out b y k h2 h3 h4).1 hk
  ·exact (hw.own b y k h2 h4).2.1 h3 hk
 have hold:∀b y,¬b∈bZ ups->bx b=some y->y.live=true->∀g,bJ (θ b)=some g->¬WrF T w bx θ r g:=by
  rintro b y hb hy hl g hg ⟨n,c,z,h1,h2,⟨h3,h4⟩|⟨h3,h4⟩⟩
  ·have:=hw.disj b c y z g hy h2 hl h3 hg h4
   subst this
   exact hb (H2 n b h1)
  ·exact (hw.own c z g h2 h4).2.2.2.2 b y hy hl hg
 have holdN:∀b y,¬b∈bZ ups->bx b=some y->∀k,y.nst T w (θ b) k->¬WrF T w bx θ r k/\¬NlF T w bx θ r k:=by
  intro b y hb hy k hk
  constructor
  ·rintro ⟨n,c,z,h1,h2,⟨h3,h4⟩|⟨h3,h4⟩⟩
   ·exact (hw.own b y k hy hk).2.2.2.2 c z h2 h3 h4
   ·have:=hw.odj b c y z k hy h2 hk h4
    subst this
    exact hb (H2 n b h1)
  ·rintro ⟨n,c,z,h1,h2,h3,h4⟩
   have:=hw.odj b c y z k hy h2 hk h4
   subst this
   exact hb (H2 n b h1)
 have hkb:∀b y,¬b∈bZ ups->bx b=some y->∀g,bJ (θ b)=some g->y.live=true->w'.heap[g]?=w.heap[g]?:=fun b y hb hy g hg hl=>kold g (hw.out b y g hy hl hg).2.1 (hold b y hb hy hl g hg)
 have hkn:∀b y,¬b∈bZ ups->bx b=some y->∀k,y.nst T w (θ b) k->w'.heap[k]?=w.heap[k]?:=fun b y hb hy k hk=>kold k (hw.own b y k hy hk).1 (holdN b y hb hy k hk).1
 have m:Mv F w bx θ F' w' (dL bx ups) θ':=by
  refine ⟨c1,fun k hk=>kold k (hw.lt k hk) (hFw k hk),fun b x hx=>?_⟩
  by_cases hb:b∈bZ ups
  ·obtain ⟨x',hx'⟩:=rJ.1 hb
   exact ⟨x',pf hnd hx',H4 b x' x hx' hx⟩
  ·refine ⟨x,by rw[ia hb];exact hx,Mp _,fun _=>⟨x.kI,H1 b hb,fun h=>⟨h,?_⟩⟩⟩
   have hm:x.m=2:=h
   intro g o n cap e p A l c hc
   have hl:x.live=true:=by cases x<;>first|rfl|simp[Box.m] at hm
   rw[fZ (hkb b x hb hx g (by rw[e];rfl) hl)];exact hc
 have hget:∀b x,dL bx ups b=some x->(b,x)∈ups∨(¬b∈bZ ups/\bx b=some x):=by
  intro b x hx
  by_cases hb:b∈bZ ups
  ·obtain ⟨x',hx'⟩:=rJ.1 hb
   rw[pf hnd hx'] at hx
   obtain rfl:=Mh hx
   exact .inl hx'
  ·exact .inr ⟨hb,by rw[ia hb] at hx;exact hx⟩
 have hwr:∀g,WrF T w bx θ r g->fr.w0.heap.size<=g∨fr.wr g:=by
  rintro g ⟨n,b,y,h1,h2,⟨h3,h4⟩|⟨h3,h4⟩⟩
  ·exact (hw.out b y g h2 h3 h4).2.2
  ·obtain ⟨_,q2,_,q4,_⟩:=hw.own b y g h2 h4
   rcases q4 with q|q|q
   ·exact .inl q
   ·exact .inr q
   ·exact absurd (hw.nlF g q) (q2 h3)
 have hback:∀b y k,¬b∈bZ ups->bx b=some y->y.live=true->y.nst T w' (θ b) k->y.nst T w (θ b) k:=fun b y k hb hy hl hk=>CH hk (fun g hg=>hkb b y hb hy g hg hl) (hkn b y hb hy)
 have hlive:∀(x:Box) {w:World} {v:Value} {k:Nat},x.nst T w v k->x.live=true:=fun x w v k h=>by cases x<;>first|rfl|exact h.elim
 refine ⟨⟨?_,?_,?_,c3,?_,fun k hk=>c1 k (hw.sub k hk),?_,sw hw.stay m,?_,?_,?_,fun k hk=>c1 k (hw.nlF k hk)⟩,m⟩
 ·intro b x hx
  rcases hget b x hx with h|⟨hb,h⟩
  ·cases hl:x.live with
   |true=>exact (H3 b x h hl).1
   |false=>cases x<;>first|trivial|simp[Box.live] at hl
  ·cases hl:x.live with
   |true=>exact (hw.box b x h).mv m (H1 b hb) (fun g hg=>hkb b x hb h g hg hl) (hkn b x hb h)
   |false=>cases x<;>first|trivial|simp[Box.live] at hl
 ·intro b b' x x' g hx hx' hl hl' hg hg'
  rcases hget b x hx with h|⟨hb,h⟩
  ·rcases hget b' x' hx' with h'|⟨hb',h'⟩
   ·exact H5 b b' x x' g h h' hl hl' hg hg'
   ·rw[H1 b' hb'] at hg'
    rcases ((H3 b x h hl).2 g hg).2.2 with q|q
    ·have:=(hw.out b' x' g h' hl' hg').2.1;omega
    ·exact absurd q (hold b' x' hb' h' hl' g hg')
  ·rw[H1 b hb] at hg
   rcases hget b' x' hx' with h'|⟨hb',h'⟩
   ·rcases ((H3 b' x' h' hl').2 g hg').2.2 with q|q
    ·have:=(hw.out b x g h hl hg).2.1;omega
    ·exact absurd q (hold b x hb h hl g hg)
   ·rw[H1 b' hb'] at hg'
    exact hw.disj b b' x x' g h h' hl hl' hg hg'
 ·intro b x g hx hl hg
  rcases hget b x hx with h|⟨hb,h⟩
  ·obtain ⟨q1,q2,q3⟩:=(H3 b x h hl).2 g hg
   refine ⟨q1,q2,?_⟩
   rcases q3 with q|q
   ·exact .inl (MR hw.keep.size q)
   ·exact hwr g q
  ·rw[H1 b hb] at hg
   obtain ⟨q1,q2,q3⟩:=hw.out b x g h hl hg
   refine ⟨fun hF=>?_,by omega,q3⟩
   rcases c2 g hF with q|q|q
   ·exact q1 q
   ·omega
   ·exact hold b x hb h hl g hg q
 ·refine hw.keep.next kos ktp kou ksz fun k h1 h2=>kold k (MS h1 hw.keep.size) fun h=>?_
  rcases hwr k h with q|q
  ·omega
  ·exact h2 q
 ·intro k hk
  rcases c2 k hk with q|q|q
  ·exact hw.new k q
  ·exact .inr (.inl (MR hw.keep.size q))
  ·exact .inr ((hwr k q).imp id .inl)
 ·intro b x hx
  rcases hget b x hx with h|⟨hb,h⟩
  ·exact (H6 b x h).1
  ·rw[H1 b hb]
   cases hl:x.live with
   |true=>exact BE (hw.lin b x h) (fun g hg=>hkb b x hb h g hg hl) (hkn b x hb h)
   |false=>cases x<;>first|trivial|simp[Box.live] at hl
 ·intro b x k hx hk
  rcases hget b x hx with h|⟨hb,h⟩
  ·obtain ⟨q1,q2,q3,q4,q5⟩:=(H6 b x h).2 k hk
   refine ⟨q1,q2,q3,?_,fun b' x' hx' hl'=>?_⟩
   ·rcases q4 with q|q|⟨n,c,z,h1,h2,h3,h4⟩
    ·exact .inl (MR hw.keep.size q)
    ·exact (hwr k q).imp id .inl
    ·exact (hw.own c z k h2 h4).2.2.2.1
   ·rcases hget b' x' hx' with h'|⟨hb',h'⟩
    ·exact q5 b' x' h' hl'
    ·rw[H1 b' hb']
     intro hg
     rcases q4 with q|q|⟨n,c,z,h1,h2,h3,h4⟩
     ·have:=(hw.out b' x' k h' hl' hg).2.1;omega
     ·exact hold b' x' hb' h' hl' k hg q
     ·exact (hw.own c z k h2 h4).2.2.2.2 b' x' h' hl' hg
  ·rw[H1 b hb] at hk
   have hk0:=hback b x k hb h (hlive _ hk) hk
   obtain ⟨q1,q2,q3,q4,q5⟩:=hw.own b x k h hk0
   refine ⟨by omega,fun hm hF=>?_,fun hm=>c1 k (q3 hm),q4,fun b' x' hx' hl' hg=>?_⟩
   ·rcases c2 k hF with q|q|q
    ·exact q2 hm q
    ·omega
    ·exact (holdN b x hb h k hk0).1 q
   ·rcases hget b' x' hx' with h'|⟨hb',h'⟩
    ·rcases ((H3 b' x' h' hl').2 k hg).2.2 with q|q
     ·omega
     ·exact (holdN b x hb h k hk0).1 q
    ·rw[H1 b' hb'] at hg
     exact q5 b' x' h' hl' hg
 ·intro b b' x x' k hx hx' hk hk'
  have cross:∀b b' x x',(b,x)∈ups->x.nst T w' (θ' b) k->¬b'∈bZ ups->bx b'=some x'->x'.nst T w' (θ' b') k->False:=by
   intro b b' x x' h hk hb' h' hk'
   rw[H1 b' hb'] at hk'
   have hk0:=hback b' x' k hb' h' (hlive _ hk') hk'
   obtain ⟨n1,n2⟩:=holdN b' x' hb' h' k hk0
   rcases ((H6 b x h).2 k hk).2.2.2.1 with q|q|q
   ·have:=(hw.own b' x' k h' hk0).1;omega
   ·exact n1 q
   ·exact n2 q
  rcases hget b x hx with h|⟨hb,h⟩
  ·rcases hget b' x' hx' with h'|⟨hb',h'⟩
   ·exact H7 b b' x x' k h h' hk hk'
   ·exact (cross b b' x x' h hk hb' h' hk').elim
  ·rcases hget b' x' hx' with h'|⟨hb',h'⟩
   ·exact (cross b' b x' x h' hk' hb h hk).elim
   ·rw[H1 b hb] at hk
    rw[H1 b' hb'] at hk'
    exact hw.odj b b' x x' k h h' (hback b x k hb h (hlive _ hk) hk) (hback b' x' k hb' h' (hlive _ hk') hk')
theorem GM {vs:List V} {us:List Value} (hl:us.length=vs.length) (hr:∀(i:Nat) (x:V) (v:Value),vs[i]?=some x->us[i]?=some v->aj T F w bx θ x v):∀d,aj T F w bx θ (slotsOf vs d) (us.getD d undef):=by
 intro d
 unfold slotsOf
 rw[sZ]
 simp only[Mm]
 rcases Nat.lt_or_ge d vs.length with h|h
 ·rw[Mg h,Mg (by omega)]
  exact hr d _ _ (Mg h) (Mg (by omega))
 ·rw[M7 h,M7 (by omega)]
  exact .un _
theorem AJ {n:Nat} {k:BSk}:∀ {l:List (Nat×BSk)},typed n k l=true->∀k',(n,k')∈l->lz k k'=true
 |[],_,k',h=>by simp at h
 |(m,q)::r,ht,k',h=>by
  simp only[typed,ao,kN,cX,Mk,MX,MM] at ht
  rcases Mw.1 h with e|h
  ·simp only[MG] at e
   obtain ⟨rfl,rfl⟩:=e
   rcases ht.1 with q|q
   ·rw[Nat.beq_refl] at q;simp at q
   ·exact q
  ·exact AJ ht.2 k' h
theorem Bl {inB:List (Nat×BSk)} {ip:List Nat}:∀ {out:List (Nat×BSk)},Bk inB ip out=true->∀n k k',n∈ip->(n,k)∈out->(n,k')∈inB->lz k k'=true
 |[],_,n,k,k',_,h,_=>by simp at h
 |(m,q)::r,ht,n,k,k',hi,h,hin=>by
  simp only[Bk,ao,kN,cX,Mk,MX,MM] at ht
  rcases Mw.1 h with e|h
  ·simp only[MG] at e
   obtain ⟨rfl,rfl⟩:=e
   rcases ht.1 with q|q
   ·rw[(cN _ _).2 hi] at q;simp at q
   ·exact AJ q k' hin
  ·exact Bl ht.2 n k k' hi h hin
theorem lC (xs:List C):∀(q:List (Nat×BSk)) (p:Nat) (f:Bxs) (n:Nat) (x:Box),bL q n=true->ck nm0 xs q p f n=some x->
  ∃k,(n,k)∈q/\((∃t ks cells,k=.var t ks/\x=.var 0 t cells)∨(∃t es m,k=.arr t m/\x=.arr 0 t es m)∨∃t es,k=.mp t/\x=.mp 0 t es)
 |[],p,f,n,x,h,_=>by simp[bL] at h
 |(m,bk)::r,p,f,n,x,h,hx=>by
  by_cases hr:bL r n=true
  ·cases bk with
   |var t ks=>
    obtain ⟨k,h1,h2⟩:=lC xs r _ _ n x hr (show ck nm0 xs r (Sk.insts nm0 xs ks p).2 _ n=some x from hx)
    exact ⟨k,MF _ h1,h2⟩
   |arr t md=>
    obtain ⟨k,h1,h2⟩:=lC xs r _ _ n x hr (show ck nm0 xs r (p+1) _ n=some x from hx)
    exact ⟨k,MF _ h1,h2⟩
   |mp t=>
    obtain ⟨k,h1,h2⟩:=lC xs r _ _ n x hr (show ck nm0 xs r (p+1) _ n=some x from hx)
    exact ⟨k,MF _ h1,h2⟩
  ·have hm:m=n:=((cU _ _ _ _).1 h).resolve_right hr
   subst hm
   have hno:∀(l:List (Nat×BSk)) (p:Nat) (f:Bxs),¬bL l m=true->ck nm0 xs l p f m=f m:=by
    intro l
    induction l with
    |nil=>intro p f _;rfl
    |cons a r ih=>
     obtain ⟨c,bk⟩:=a
     intro p f hn
     have hn':=fun h=>hn ((cU _ _ _ _).2 h)
     cases bk with
     |var t ks=>
      show ck nm0 xs r (Sk.insts nm0 xs ks p).2 _ m=_
      exact (ih _ _ (fun h=>hn' (.inr h))).trans (aY f (d:=c) _ (fun h=>hn' (.inl h.symm)))
     |arr t md=>
      show ck nm0 xs r (p+1) _ m=_
      exact (ih _ _ (fun h=>hn' (.inr h))).trans (aY f (d:=c) _ (fun h=>hn' (.inl h.symm)))
     |mp t=>
      show ck nm0 xs r (p+1) _ m=_
      exact (ih _ _ (fun h=>hn' (.inr h))).trans (aY f (d:=c) _ (fun h=>hn' (.inl h.symm)))
   cases bk with
   |var t ks=>
    replace hx:ck nm0 xs r (Sk.insts nm0 xs ks p).2 (upd f m (some (.var 0 t (Sk.insts nm0 xs ks p).1))) m=some x:=hx
    rw[hno r _ _ hr,ar] at hx
    obtain rfl:=Mh hx
    exact ⟨_,Mz ..,.inl ⟨t,ks,_,rfl,rfl⟩⟩
   |arr t md=>
    replace hx:ck nm0 xs r (p+1) (upd f m (some (.arr 0 t (xs.getD p .nil).L md))) m=some x:=hx
    rw[hno r _ _ hr,ar] at hx
    obtain rfl:=Mh hx
    exact ⟨_,Mz ..,.inr (.inl ⟨t,_,md,rfl,rfl⟩)⟩
   |mp t=>
    replace hx:ck nm0 xs r (p+1) (upd f m (some (.mp 0 t (xs.getD p .nil).L))) m=some x:=hx
    rw[hno r _ _ hr,ar] at hx
    obtain rfl:=Mh hx
    exact ⟨_,Mz ..,.inr (.inr ⟨t,_,rfl,rfl⟩)⟩
end
end Go.Ev
namespace Go.Ev
section
variable {P:Program} {T:Tys} {fr:Fr} {F:Nat->Prop} {w:World} {bx:Bxs} {θ:Nat->Value}
theorem Em {l m:List Nat} (h:bM (l++m)=true):bM l=true:=by
 induction l with
 |nil=>rfl
 |cons a r ih=>
  simp only[List.cons_append,bM,ao,cX,Mk,MM] at h⊢
  refine ⟨?_,ih h.2⟩
  cases hm:cZ r a with
  |false=>rfl
  |true=>
   have:a∈r++m:=List.mem_append_left _ ((cN _ _).1 hm)
   rw[(cN _ _).2 this] at h
   simp at h
theorem se {tr:Nat->Bool} {nm:Nm} {xs:List C}:∀ {q:List (Nat×BSk)} {p:Nat} {n:Nat},bL q n=true->(nm n).1∈bZ (j3 tr nm xs q p)
 |[],p,n,h=>by simp[bL] at h
 |(m,k)::r,p,n,h=>by
  rcases (cU _ _ _ _).1 h with rfl|h2
  ·cases k<;>exact Mz ..
  ·cases k<;>exact MF _ (se h2)
theorem AN {tr:Nat->Bool} {nm:Nm} {xs:List C}:∀ {q:List (Nat×BSk)} {p:Nat},bM (bZ (j3 tr nm xs q p))=true->∀ {n n':Nat},bL q n=true->bL q n'=true->(nm n).1=(nm n').1->n=n'
 |[],p,hd,n,n',h,_,_=>by simp[bL] at h
 |(m,k)::r,p,hd,n,n',h,h',he=>by
  have key:∀(p2:Nat) (y:Box),j3 tr nm xs ((m,k)::r) p=((nm m).1,y)::j3 tr nm xs r p2->n=n':=by
   intro p2 y e
   rw[e] at hd
   simp only[bZ,bM,ao,cX,Mk,MM] at hd
   have hno:∀q,bL r q=true->(nm q).1≠(nm m).1:=fun q hq he=>by
    have:=se (tr:=tr) (nm:=nm) (xs:=xs) (p:=p2) hq
    rw[he,←cN] at this
    rw[this] at hd;simp at hd
   rcases (cU _ _ _ _).1 h with h1|h1
   ·rcases (cU _ _ _ _).1 h' with h2|h2
    ·exact h1.symm.trans h2
    ·subst h1;exact absurd he.symm (hno _ h2)
   ·rcases (cU _ _ _ _).1 h' with h2|h2
    ·subst h2;exact absurd he (hno _ h1)
    ·exact AN hd.2 h1 h2 he
  cases k with
  |var t ks=>exact key _ _ rfl
  |arr t md=>exact key _ _ rfl
  |mp t=>exact key _ _ rfl
theorem Hi {l:List (Nat×Box)} (h:bM (bZ l)=true) {b:Nat} {x x':Box} (h1:(b,x)∈l) (h2:(b,x')∈l):x=x':=by
 have a:=pf (f:=fun _=>none) h h1
 have b:=pf (f:=fun _=>none) h h2
 rw[a] at b
 exact Mh b
open Classical in
noncomputable def gW (θ θ1:Nat->Value) (nm:Nm) (q:List (Nat×BSk)):Nat->Value:=fun b=>if h:∃n,bL q n=true/\b=(nm n).1 then θ1 h.choose else θ b
theorem GQ {tr:Nat->Bool} {θ θ1:Nat->Value} {nm:Nm} {q:List (Nat×BSk)} {xs:List C} {p n:Nat} (hd:bM (bZ (j3 tr nm xs q p))=true) (hn:bL q n=true):gW θ θ1 nm q (nm n).1=θ1 n:=by
 have h:∃n',bL q n'=true/\(nm n).1=(nm n').1:=⟨n,hn,rfl⟩
 unfold gW
 rw[dif_pos h,←AN hd hn h.choose_spec.1 h.choose_spec.2]
theorem EG {tr:Nat->Bool} {θ θ1:Nat->Value} {nm:Nm} {q:List (Nat×BSk)} {xs:List C} {p b:Nat} (h:¬b∈bZ (j3 tr nm xs q p)):gW θ θ1 nm q b=θ b:=by
 unfold gW
 rw[dif_neg]
 rintro ⟨n,hn,rfl⟩
 exact h (se hn)
theorem AG {ip:List Nat} {r:Ren} {out:List (Nat×BSk)} {d n b:Nat} (hn:bL out n=true) (hf:r.find n=some (some b)):(qe ip r out bx d n).1=b/\∀y,bx b=some y->(qe ip r out bx d n).2=if n∈ip then y.ver else y.ver+1:=by
 unfold qe
 rw[hn,ai]
 simp only[hf]
 cases hb:bx b with
 |none=>exact ⟨rfl,fun y h=>by simp at h⟩
 |some x=>
  refine ⟨rfl,fun y h=>?_⟩
  obtain rfl:=Mh h
  show sif (cZ ip n) _ _=_
  cases hm:cZ ip n with
  |true=>rw[if_pos ((cN _ _).1 hm)];rfl
  |false=>
   rw[if_neg (fun h=>by rw[(cN _ _).2 h] at hm;simp at hm)];rfl
theorem Bv {ip:List Nat} {r:Ren} {out:List (Nat×BSk)} {d n:Nat} (hn:bL out n=true) (hf:∀b,r.find n≠some (some b)):(qe ip r out bx d n).1=pd d n/\(qe ip r out bx d n).2=fY bx (pd d n):=by
 unfold qe
 rw[hn,ai]
 rcases hr:r.find n with _|_|b
 ·exact ⟨rfl,rfl⟩
 ·exact ⟨rfl,rfl⟩
 ·exact absurd hr (hf b)
theorem zM {tr:Bool} {m:Nat}:rY tr m≠0↔m≠0:=by
 unfold rY
 cases h:az tr (Nat.beq m 1) with
 |false=>rfl
 |true=>
  rw[ao,Mk] at h
  have:=Mi h.2
  subst this
  simp[sif]
theorem qX {tr:Bool} {m:Nat} (h:tr=false∨m≠1):rY tr m=m:=by
 unfold rY
 cases hc:az tr (Nat.beq m 1) with
 |false=>rfl
 |true=>
  rw[ao,Mk] at hc
  have:=Mi hc.2
  rcases h with h|h
  ·rw[h] at hc;simp at hc
  ·exact absurd this h
theorem HJ.tm {b:Bool} {m:Nat} {t:TypeId} {es:List (List C)} {v:Value} (h:HJ T w m t es v):HJ T w (rY b m) t es v:=by
 by_cases h1:m=1
 ·subst h1;exact (h.1 (by decide)).toM
 ·rw[qX (.inr h1)];exact h
theorem oc {tr:Nat->Bool} {nm:Nm} {ys:List C} {n:Nat} {k:BSk} {z x:Box} (h:Two tr nm ys n k z x) {w:World} {v:Value}:z.live=true/\x.live=true/\(∀q,x.nst T w v q↔z.nst T w v q)/\(z.lin T w v->x.lin T w v):=by
 rcases h.2.2 with ⟨t,ks,p',_,rfl,rfl⟩|⟨t,es,m,_,rfl,rfl⟩|⟨t,es,_,rfl,rfl⟩
 ·exact ⟨rfl,rfl,fun _=>Iff.rfl,fun h=>h⟩
 ·exact ⟨rfl,rfl,fun q=>and_congr zM Iff.rfl,fun h hm=>(h (zM.1 hm)).tm⟩
 ·exact ⟨rfl,rfl,fun _=>Iff.rfl,fun h=>h⟩
theorem jQ {tr:Nat->Bool} {n t m:Nat}:∀ {l:List (Nat×BSk)},lI tr l=true->(n,.arr t m)∈l->tr t=false∨m≠1
 |[],_,h=>by simp at h
 |(a,.var _ _)::r,h,hm=>jQ (l:=r) h (by simpa using hm)
 |(a,.mp _)::r,h,hm=>jQ (l:=r) h (by simpa using hm)
 |(a,.arr t' m')::r,h,hm=>by
  simp only[lI,ao,cX,Mk,MM] at h
  rcases Mw.1 hm with e|hm
  ·simp only[MG,BSk.arr.injEq] at e
   obtain ⟨_,rfl,rfl⟩:=e
   rcases Bool.eq_false_or_eq_true (tr t) with h1|h1
   ·refine .inr ?_
    rintro rfl
    rw[h1] at h;simp at h
   ·exact .inl h1
  ·exact jQ h.2 hm
theorem Fy {bx:Bxs} {r:Ren}:∀ {q:List Nat},ipM bx r q=true->∀n b x,n∈q->r.find n=some (some b)->bx b=some x->x.m≠4
 |[],_,n,b,x,h,_,_=>by simp at h
 |a::q,h,n,b,x,hn,hf,hb=>by
  simp only[ipM,ao,Mk] at h
  rcases Mw.1 hn with rfl|hn
  ·have:=h.1
   rw[hf] at this
   simp only[hb] at this
   intro e
   rw[e] at this
   simp[dY] at this
  ·exact Fy h.2 n b x hn hf hb
theorem sR {n:Nat} {k:BSk}:∀ {l:List (Nat×BSk)},vI l=true->(n,k)∈l->∃t,k=.arr t 1
 |[],_,h=>by simp at h
 |(a,.var _ _)::r,h,hm=>by simp[vI] at h
 |(a,.mp _)::r,h,hm=>by simp[vI] at h
 |(a,.arr t' m')::r,h,hm=>by
  simp only[vI,ao,Mk] at h
  rcases Mw.1 hm with e|hm
  ·simp only[MG] at e
   obtain ⟨_,rfl⟩:=e
   have:=Mi h.1
   subst this
   exact ⟨_,rfl⟩
  ·exact sR h.2 hm
theorem iZ.HB {F1 F':Nat->Prop} {bo bx':Bxs} {θo θ':Nat->Value} {n b v v' m m':Nat} {t:TypeId} {es:List (List C)} (h:iZ T F1 w bo θo n (.arr v t es m)) (hl:qu T w t es (θo n)) (hm3:m'≠3) (hF:¬2<=m'->∀k,Nst T w t es (θo n) k->F' k) (hθ:θ' b=θo n):iZ T F' w bx' θ' b (.arr v' t es m'):=by
 obtain ⟨d,A,cap,h1,h2,h3,h4⟩:=h
 refine ⟨d,A,cap,h1,by rw[hθ];exact h2,h3,h4.imp id ?_⟩
 rintro ⟨g,o,cs,rfl,q2,q3,q4,q5⟩
 refine ⟨g,o,cs,rfl,q2,q3,q4,fun i c j x ct u a1 a2 a3 a4=>?_⟩
 have hc:cM T w t es (θo n) i j ct x u:=by
  rw[h2]
  exact (dE h1 q2).2 ⟨c,a1,a2,a3,by rw[MB];simpa using a4⟩
 have hr:=hl.rel _ _ _ _ _ hc
 by_cases h2:2<=m'
 ·rw[C0 h2 hm3];exact hr
 ·rw[rE h2]
  exact hr.IW fun k hk=>hF h2 k ⟨i,j,ct,x,u,hc,hk⟩
theorem Ir {tr:Nat->Bool} {g:FuncId} {fs:FS} (hX:oh P T g fs) (hw:WR T fr F w bx θ) {vs:List V} {args:Array Value} (hl:args.toList.length=vs.length)
  (hr:∀(i:Nat) (x:V) (v:Value),vs[i]?=some x->args.toList[i]?=some v->aj T F w bx θ x v) {d:Nat} {k:Eff->List Nat->R} {r:Out} (h:Bu T tr fs d vs bx k=some r):
  ∃e rd,k e rd=some r/\Calls P g args w fun en w'=>∃v,en=.returned v/\Aft T fr F w bx θ e v w':=by
 unfold Bu at h
 split at h
 ·simp at h
 rename_i e he
 cases hb:Nat.beq (len vs) fs.n with
 |false=>simp[hb,sif] at he
 |true=>
 rw[hb,ai] at he
 rw[dA] at hb
 have hn:=Mi hb
 cases hc:az (orS (az (isNil e.fz) (lI tr fs.outT.bx)) (orS fs.outT.flat (az fs.outT.pure (orS (lI tr fs.outT.bx) (az (isNil fs.ip) (lI Er fs.inT.bx)))))) (az (Bk fs.inT.bx fs.ip fs.outT.bx) (az (mR fs.inT.bx fs.ip) (ipM bx e.r fs.ip))) with
 |false=>simp[hc,sif] at h
 |true=>
 rw[hc,ai] at h
 simp only[ao,kN,Mk,MX] at hc
 obtain ⟨hfz,hst,hall,hip4⟩:=hc
 unfold im at h
 split at h
 ·rename_i ys hys
  cases hnd:bM (bZ (dD tr fs d e.r bx ys)) with
  |false=>
   replace h:sif (bM (bZ (dD tr fs d e.r bx ys))) (k ⟨vj fs d e.r bx ys,dD tr fs d e.r bx ys⟩ (app (names e.r) (app e.fz (bZ (dD tr fs d e.r bx ys))))) none=some r:=h
   simp[hnd,sif] at h
  |true=>
  replace h:sif (bM (bZ (dD tr fs d e.r bx ys))) (k ⟨vj fs d e.r bx ys,dD tr fs d e.r bx ys⟩ (app (names e.r) (app e.fz (bZ (dD tr fs d e.r bx ys))))) none=some r:=h
  rw[hnd,ai] at h
  have hinj:=vO hw (GM hl hr) he
  have hwc:WR T ⟨w,WrF T w bx θ e.r,FzF T F w bx θ e.fz,oE θ e.r,fs.ip,fun q=>lI Er fs.inT.bx=false/\NlF T w bx θ e.r q⟩ (FzF T F w bx θ e.fz) w (fs.inT.inj (rev e.xs [])).bx (oE θ e.r):=by
   refine ⟨hinj.box,hinj.disj,fun n x g hx hl hg=>?_,E8 hw,⟨rfl,rfl,⟨rfl,Mp _⟩,Mp _,fun _ _ _=>rfl⟩,fun _ h=>h,fun _ h=>.inl h,fun n hn=>?_,hinj.lin,fun n x q hx hq=>?_,hinj.odj,?_⟩
   ·obtain ⟨h1,b,y,q1,q2,q3,q4⟩:=hinj.out n x g hx hl hg
    exact ⟨h1,(hw.out b y g q2 q3 q4).2.1,.inr ⟨n,b,y,q1,q2,.inl ⟨q3,q4⟩⟩⟩
   ·obtain ⟨x',h1,_⟩:=hinj.has n (mW hall n hn)
    exact ⟨x',h1,fun _=>⟨rfl,fun _ _ _ _ _ _ _ _ _ _ h=>h⟩⟩
   ·obtain ⟨h1,h2,h3,b,y,q1,q2,q3,q4⟩:=hinj.own n x q hx hq
    refine ⟨(hw.own b y q q2 q4).1,h1,h2,.inr ?_,h3⟩
    by_cases hm:2<=x.m
    ·exact .inl ⟨n,b,y,q1,q2,.inr ⟨q3.2 hm,q4⟩⟩
    ·refine .inr ⟨?_,n,b,y,q1,q2,fun h=>hm (q3.1 h),q4⟩
     obtain ⟨k1,t1,t2⟩:=lC _ _ _ _ n x (hinj.hasnt n x hx) hx
     have h0:x.m≠0:=by cases x<;>first|exact hq.1|exact hq.elim
     rcases t2 with ⟨t0,ks0,cells0,rfl,rfl⟩|⟨t0,es0,m0,rfl,rfl⟩|⟨t0,es0,rfl,rfl⟩
     ·exact absurd rfl h0
     ·cases hno:lI Er fs.inT.bx with
      |false=>rfl
      |true=>
       have h1m:=(jQ hno t1).resolve_left (by simp[Er])
       obtain ⟨x',p1,p2⟩:=hinj.has n (hinj.hasnt n _ hx)
       rw[hx] at p1;obtain rfl:=Mh p1
       rcases p2.2 with ⟨b',y',r1,r2,r3,r4,r5⟩|⟨r1,_⟩
       ·simp only[Box.m] at r4 h0 hm
        have:=Lm r4
        omega
       ·rw[q1] at r1;simp at r1
     ·exact absurd rfl h0
   ·rintro q ⟨_,n,b,y,q1,q2,q3,q4⟩
    exact .inl ((hw.own b y q q2 q4).2.2.1 q3)
  have hcall:=hX.calls w _ _ _ _ (rev e.xs []) ys args hwc (by simpa [hn] using hl) (fun q _=>by simpa using hinj.sl q) hys
  refine ⟨_,_,h,Calls.mono hcall ?_⟩
  rintro en w' ⟨v,F1,θ1,rfl,hw1,hv1,hkept⟩
  refine ⟨v,rfl,?_⟩
  clear h hcall hX
  have hpos:(cy (qe fs.ip e.r fs.outT.bx bx d) ys fs.outT.sl 0 fun _=>.un).2=(cy nm0 ys fs.outT.sl 0 fun _=>.un).2:=yg _ _ _ _ _ _
  have hups:dD tr fs d e.r bx ys=j3 tr (qe fs.ip e.r fs.outT.bx bx d) ys fs.outT.bx (cy nm0 ys fs.outT.sl 0 fun _=>.un).2++na bx fs.outT.bx e.r:=by
   unfold dD;rw[fP,hpos]
  have hbo:(fs.outT.inj ys).bx=ck nm0 ys fs.outT.bx (cy nm0 ys fs.outT.sl 0 fun _=>.un).2 fun _=>none:=rfl
  show Aft T fr F w bx θ ⟨vj fs d e.r bx ys,dD tr fs d e.r bx ys⟩ v w'
  generalize hnm:qe fs.ip e.r fs.outT.bx bx d=nm at hups
  generalize hp:(cy nm0 ys fs.outT.sl 0 fun _=>.un).2=p at hups hbo
  have hnd':=hnd
  rw[hups,tW] at hnd'
  have hndA:=Em hnd'
  obtain ⟨U1,U2,U3⟩:=CS tr nm ys fs.outT.bx p (fun _=>none) hndA
  rw[←hbo] at U1 U2
  obtain ⟨D1,D2⟩:=yn (bx:=bx) (out:=fs.outT.bx) (r:=e.r)
  have hin:∀b x,(b,x)∈dD tr fs d e.r bx ys->((b,x)∈j3 tr nm ys fs.outT.bx p/\∃n k y,bL fs.outT.bx n=true/\b=(nm n).1/\(n,k)∈fs.outT.bx/\(fs.outT.inj ys).bx n=some y/\Two tr nm ys n k y x)∨∃v,x=.dead v/\∀y,bx b=some y->y.ver<v:=by
   intro b x hm
   rw[hups] at hm
   rcases MO.1 hm with hm|hm
   ·obtain ⟨n,h1,h2⟩:=U3 b x hm
    obtain ⟨k,y,x',q1,q2,q3,q4⟩:=U1 n h1
    rw[←h2] at q3
    obtain rfl:=Hi hndA hm q3
    exact .inl ⟨hm,n,k,y,h1,h2,q1,q2,q4⟩
   ·exact .inr (D2 b x hm)
  have hmemU:∀n,bL fs.outT.bx n=true->∃k y x,(n,k)∈fs.outT.bx/\(fs.outT.inj ys).bx n=some y/\((nm n).1,x)∈dD tr fs d e.r bx ys/\Two tr nm ys n k y x:=by
   intro n hn
   obtain ⟨k,y,x',q1,q2,q3,q4⟩:=U1 n hn
   exact ⟨k,y,x',q1,q2,by rw[hups];exact List.mem_append_left _ q3,q4⟩
  have hin':∀n,bL fs.outT.bx n=true->gW θ θ1 nm fs.outT.bx (nm n).1=θ1 n:=fun n hn=>GQ hndA hn
  have H1:∀b,¬b∈bZ (dD tr fs d e.r bx ys)->gW θ θ1 nm fs.outT.bx b=θ b:=by
   intro b hb
   rw[hups,tW] at hb
   exact EG (fun h=>hb (List.mem_append_left _ h))
  have H2:∀n b,e.r.find n=some (some b)->b∈bZ (dD tr fs d e.r bx ys):=by
   intro n b hf
   by_cases ho:bL fs.outT.bx n=true
   ·obtain ⟨k,y,x,_,_,q3,_⟩:=hmemU n ho
    have:(nm n).1=b:=by rw[←hnm];exact (AG ho hf).1
    rw[this] at q3
    exact rJ.2 ⟨x,q3⟩
   ·obtain ⟨x,hx⟩:=D1 n b hf ho
    rw[hups,tW]
    exact List.mem_append_right _ (rJ.2 ⟨_,hx⟩)
  have hipm:∀n t m,n∈fs.ip->(n,.arr t m)∈fs.outT.bx->rY (tr t) m=m:=by
   intro n t m hn hm
   rcases hfz with ⟨_,h⟩|h|⟨h,h'|h'⟩
   ·exact qX (jQ h hm)
   ·simp only[Tm.flat,ao,Mk] at h
    have:=h.1
    split at this
    ·rename_i h0;rw[h0] at hm;simp at hm
    ·simp at this
   ·exact qX (jQ h' hm)
   ·have:=h'.1
    cases hi:fs.ip with
    |nil=>rw[hi] at hn;simp at hn
    |cons=>rw[hi] at this;simp[isNil] at this
  have H4:∀b x y,(b,x)∈dD tr fs d e.r bx ys->bx b=some y->y.ver<=x.ver/\(y.ver=x.ver->y.same x/\gW θ θ1 nm fs.outT.bx b=θ b/\(x.m=2->y.m=2/\Hdr w w' (θ b))):=by
   intro b x y hm hy
   rcases hin b x hm with ⟨_,n,kk,z,h1,rfl,h3,h4,h5⟩|⟨v,rfl,hv⟩
   ·by_cases hex:∃b,e.r.find n=some (some b)
    ·obtain ⟨b0,hf⟩:=hex
     obtain ⟨g1,g2⟩:=AG (bx:=bx) (ip:=fs.ip) (d:=d) h1 hf
     rw[hnm] at g1 g2
     rw[g1] at hy
     have g3:=g2 y hy
     have hxv:x.ver=(nm n).2:=h5.2.1
     by_cases hip:n∈fs.ip
     ·rw[if_pos hip] at g3
      refine ⟨by omega,fun _=>?_⟩
      have hth0:oE θ e.r n=θ b0:=by simp[oE,hf]
      have hth:θ1 n=θ b0:=by rw[(hkept n z hip h4).1];exact hth0
      have hhd:z.m=2->Hdr w w' (θ b0):=by rw[←hth0];exact (hkept n z hip h4).2
      suffices hs:y.same x/\(x.m=2->y.m=2)/\x.m=z.m from ⟨hs.1,by rw[hin' n h1,g1,hth],fun hxm=>by
       exact ⟨hs.2.1 hxm,by rw[g1];exact hhd (hs.2.2.symm.trans hxm)⟩⟩
      obtain ⟨x1,p1,p2,p3⟩:=hinj.has n (mW hall n hip)
      obtain ⟨k1,t1,t2⟩:=lC _ _ _ _ n x1 (mW hall n hip) p1
      have hsame:=Bl hst n kk k1 hip h3 t1
      rcases p3 with ⟨b1,y1,r1,r2,r3,r5,_⟩|⟨r1,_⟩
      ·rw[hf] at r1
       simp only[Mj] at r1
       subst r1
       rw[hy] at r2;obtain rfl:=Mh r2
       have hbx1:=hinj.box n x1 p1
       have hby:=hw.box _ _ hy
       have hbz:=hw1.box n z h4
       rcases h5.2.2 with ⟨t,ks,p',rfl,rfl,rfl⟩|⟨t,es,m,rfl,rfl,rfl⟩|⟨t,es,rfl,rfl,rfl⟩
       ·rcases t2 with ⟨t0,ks0,cells0,rfl,rfl⟩|⟨t0,es0,m0,rfl,rfl⟩|⟨t0,es0,rfl,rfl⟩
        ·have:=Mi hsame;subst this
         cases y with
         |var v t' cells=>
          obtain ⟨_,_,_,d1,_,_,_,e1,e2,_⟩:=hbx1
          obtain ⟨_,_,_,d2,_,_,_,e3,e4,_⟩:=hbz
          rw[e1] at e3;obtain rfl:=Mh e3
          replace r3:cells.length=cells0.length:=r3
          refine ⟨?_,fun h=>by simp[Box.m] at h,rfl⟩
          show cells.length=_
          rw[bD] at e4⊢
          omega
         |_=>exact r3.elim
        ·simp[lz] at hsame
        ·simp[lz] at hsame
       ·rcases t2 with ⟨t0,ks0,cells0,rfl,rfl⟩|⟨t0,es0,m0,rfl,rfl⟩|⟨t0,es0,rfl,rfl⟩
        ·simp[lz] at hsame
        ·simp only[lz,ao,Mk] at hsame
         have hm2:m=2->m0=2:=by
          rintro rfl
          have:=hsame.2
          exact Mi (by simpa [sif] using this)
         have:=Mi hsame.1;subst this
         have hmx:=hipm n _ _ hip h3
         cases y with
         |arr v t' es' m'=>
          obtain ⟨rfl,r4⟩:=r3
          obtain ⟨_,A1,c1,_,e1,_⟩:=hby
          obtain ⟨_,A2,c2,_,e2,_⟩:=hbz
          rw[hth,e1] at e2
          simp only[ML] at e2
          refine ⟨⟨rfl,e2.2.1⟩,?_,hmx⟩
          have h4':=Fy hip4 n _ _ hip hf hy
          simp only[Box.m] at r5 h4'⊢
          rw[hmx]
          exact fun h=>yL r5 h4' (hm2 h)
         |_=>exact r3.elim
        ·simp[lz] at hsame
       ·rcases t2 with ⟨t0,ks0,cells0,rfl,rfl⟩|⟨t0,es0,m0,rfl,rfl⟩|⟨t0,es0,rfl,rfl⟩
        ·simp[lz] at hsame
        ·simp[lz] at hsame
        ·have:=Mi hsame;subst this
         cases y with
         |mp v t' es'=>exact ⟨r3,fun h=>by simp[Box.m] at h,rfl⟩
         |_=>exact r3.elim
      ·rw[hf] at r1;simp at r1
     ·rw[if_neg hip] at g3
      exact ⟨by omega,fun h=>by omega⟩
    ·obtain ⟨g1,g2⟩:=Bv (bx:=bx) (ip:=fs.ip) (d:=d) h1 (fun b hb=>hex ⟨b,hb⟩)
     rw[hnm] at g1 g2
     have hxv:x.ver=(nm n).2:=h5.2.1
     rw[g1] at hy
     have:=ph hy
     exact ⟨by omega,fun h=>by omega⟩
   ·have:=hv y hy
    exact ⟨Nat.le_of_lt this,fun h=>by simp only[Box.ver] at h this;omega⟩
  have H5:∀b b' x x' g,(b,x)∈dD tr fs d e.r bx ys->(b',x')∈dD tr fs d e.r bx ys->x.live=true->x'.live=true->bJ (gW θ θ1 nm fs.outT.bx b)=some g->bJ (gW θ θ1 nm fs.outT.bx b')=some g->b=b':=by
   intro b b' x x' g hm hm' hlv hlv' hg hg'
   rcases hin b x hm with ⟨_,n,kk,z,h1,rfl,h3,h4,h5⟩|⟨v,rfl,hv⟩
   ·rcases hin b' x' hm' with ⟨_,n',kk',z',h1',rfl,h3',h4',h5'⟩|⟨v,rfl,hv⟩
    ·rw[hin' n h1] at hg
     rw[hin' n' h1'] at hg'
     have hz:z.live=true:=(oc (T:=T) (w:=w) (v:=v) h5).1
     have hz':z'.live=true:=(oc (T:=T) (w:=w) (v:=v) h5').1
     rw[hw1.disj n n' z z' g h4 h4' hz hz' hg hg']
    ·simp[Box.live] at hlv'
   ·simp[Box.live] at hlv
  have hk:=hw1.keep
  have hc2:∀q,F1 q->FzF T F w bx θ e.fz q∨w.heap.size<=q∨WrF T w bx θ e.r q:=fun q hq=>by
   rcases hw1.new q hq with h|h|h|⟨_,n,b,y,q1,q2,q3,q4⟩
   ·exact .inl h
   ·exact .inr (.inl h)
   ·exact .inr (.inr h)
   ·exact .inl (.inl ((hw.own b y q q2 q4).2.2.1 q3))
  have hho:∀n x,(fs.outT.inj ys).bx n=some x->bL fs.outT.bx n=true:=by
   intro n x hx
   by_cases ho:bL fs.outT.bx n=true
   ·exact ho
   ·rw[U2 n ho] at hx;simp at hx
  have hNm:NmR (fs.outT.inj ys).bx θ1 nm (dL bx (dD tr fs d e.r bx ys)) (gW θ θ1 nm fs.outT.bx):=by
   intro n x hx
   have ho:=hho n x hx
   obtain ⟨kk,y,x',q1,q2,q3,q4⟩:=hmemU n ho
   rw[hx] at q2;obtain rfl:=Mh q2
   refine ⟨q4.1,x',pf hnd q3,q4.2.1,?_,hin' n ho⟩
   rcases q4.2.2 with ⟨t,ks,p',_,rfl,rfl⟩|⟨t,es,m,_,rfl,rfl⟩|⟨t,es,_,rfl,rfl⟩
   ·show List.length _=List.length _
    rw[bD,bD]
   ·exact ⟨rfl,rfl⟩
   ·rfl
  have hnlv:∀(v:Nat) (u:Value) (q:Nat),¬(Box.dead v).nst T w' u q:=fun _ _ _ h=>h
  have H6:∀F':Nat->Prop,(∀n kk z x q,bL fs.outT.bx n=true->(n,kk)∈fs.outT.bx->(fs.outT.inj ys).bx n=some z->Two tr nm ys n kk z x->z.nst T w' (θ1 n) q->(2<=x.m->¬F' q)/\(¬2<=x.m->F' q))->∀b x,(b,x)∈dD tr fs d e.r bx ys->x.lin T w' (gW θ θ1 nm fs.outT.bx b)/\∀q,x.nst T w' (gW θ θ1 nm fs.outT.bx b) q->q<w'.heap.size/\(2<=x.m->¬F' q)/\(¬2<=x.m->F' q)/\(w.heap.size<=q∨WrF T w bx θ e.r q∨NlF T w bx θ e.r q)/\∀b' x',(b',x')∈dD tr fs d e.r bx ys->x'.live=true->bJ (gW θ θ1 nm fs.outT.bx b')≠some q:=by
   intro F' hF' b x hm
   rcases hin b x hm with ⟨_,n,kk,z,h1,rfl,h3,h4,h5⟩|⟨v,rfl,hv⟩
   ·rw[hin' n h1]
    obtain ⟨_,_,t3,t4⟩:=oc (T:=T) (w:=w') (v:=θ1 n) h5
    refine ⟨t4 (hw1.lin n z h4),fun q hq=>?_⟩
    have hq:=(t3 q).1 hq
    obtain ⟨o1,o2,o3,o4,o5⟩:=hw1.own n z q h4 hq
    refine ⟨o1,(hF' n kk z x q h1 h3 h4 h5 hq).1,(hF' n kk z x q h1 h3 h4 h5 hq).2,?_,fun b' x' hm' hl'=>?_⟩
    ·rcases o4 with h|h|h
     ·exact .inl h
     ·exact .inr (.inl h)
     ·exact .inr (.inr h.2)
    ·rcases hin b' x' hm' with ⟨_,n',kk',z',h1',rfl,h3',h4',h5'⟩|⟨v,rfl,hv⟩
     ·rw[hin' n' h1']
      exact o5 n' z' h4' (oc (T:=T) (w:=w') (v:=θ1 n) h5').1
     ·simp[Box.live] at hl'
   ·exact ⟨trivial,fun q hq=>absurd hq (hnlv _ _ _)⟩
  have H7:∀b b' x x' q,(b,x)∈dD tr fs d e.r bx ys->(b',x')∈dD tr fs d e.r bx ys->x.nst T w' (gW θ θ1 nm fs.outT.bx b) q->x'.nst T w' (gW θ θ1 nm fs.outT.bx b') q->b=b':=by
   intro b b' x x' q hm hm' hq hq'
   rcases hin b x hm with ⟨_,n,kk,z,h1,rfl,h3,h4,h5⟩|⟨v,rfl,hv⟩
   ·rcases hin b' x' hm' with ⟨_,n',kk',z',h1',rfl,h3',h4',h5'⟩|⟨v,rfl,hv⟩
    ·rw[hin' n h1] at hq
     rw[hin' n' h1'] at hq'
     rw[hw1.odj n n' z z' q h4 h4' (((oc h5).2.2.1 q).1 hq) (((oc h5').2.2.1 q).1 hq')]
    ·exact absurd hq' (hnlv _ _ _)
   ·exact absurd hq (hnlv _ _ _)
  rcases hfz with ⟨hfz,htr⟩|hflat|⟨hpure,htr⟩
  ·
   have hfz0:e.fz=[]:=by
    cases hz:e.fz with
    |nil=>rfl
    |cons=>rw[hz] at hfz;simp[isNil] at hfz
   have hFz:∀k,FzF T F w bx θ e.fz k->F k:=by
    rintro k (h|⟨b,x,h1,_⟩)
    ·exact h
    ·rw[hfz0] at h1;simp at h1
   have hRn:Rnm F1 w' (fs.outT.inj ys).bx θ1 nm F1 (dL bx (dD tr fs d e.r bx ys)) (gW θ θ1 nm fs.outT.bx):=⟨fun _ h=>h,hNm⟩
   have htm:∀n t m,(n,.arr t m)∈fs.outT.bx->rY (tr t) m=m:=fun n t m hm=>qX (jQ htr hm)
   have hframe:=tl (F':=F1) (w':=w') (θ':=gW θ θ1 nm fs.outT.bx) hw hnd hk.os hk.tape hk.output hk.size hk.old H1 H2
    (fun b x hm hlv=>by
     rcases hin b x hm with ⟨_,n,kk,z,h1,rfl,h3,h4,h5⟩|⟨v,rfl,hv⟩
     ·rw[hin' n h1]
      refine ⟨?_,fun g hg=>hw1.out n z g h4 (oc (T:=T) (w:=w) (v:=v) h5).1 hg⟩
      have hbz:=hw1.box n z h4
      rcases h5.2.2 with ⟨t,ks,p',_,rfl,rfl⟩|⟨t,es,m,rfl,rfl,rfl⟩|⟨t,es,_,rfl,rfl⟩
      ·obtain ⟨g,cs,te,dd,q1,q2,q3,q4,q5,q6⟩:=hbz
       rw[bD] at q3 q5
       refine ⟨g,cs,te,dd,by rw[hin' n h1];exact q1,q2,by rw[bD];exact q3,q4,by rw[bD];exact q5,fun i y u a1 a2=>?_⟩
       exact (uG hRn ys ks p').2 cs.toList (fun i y u b1 b2=>q6 i y u b1 (by simpa using b2)) i y u a1 (by simpa using a2)
      ·rw[htm n t m h3]
       obtain ⟨dd,A,cap,q1,q2,q3⟩:=hbz
       exact ⟨dd,A,cap,q1,by rw[hin' n h1];exact q2,q3⟩
      ·obtain ⟨q,arr,clk,dd,ct,q1,q2⟩:=hbz
       exact ⟨q,arr,clk,dd,ct,by rw[hin' n h1];exact q1,q2⟩
     ·simp[Box.live] at hlv) H4 H5 (H6 F1 fun n kk z x q h1 h3 h4 h5 hq=>by
      obtain ⟨_,o2,o3,_⟩:=hw1.own n z q h4 hq
      have hxm:x.m=z.m:=by
       rcases h5.2.2 with ⟨t,ks,p',_,rfl,rfl⟩|⟨t,es,m,rfl,rfl,rfl⟩|⟨t,es,_,rfl,rfl⟩
       ·rfl
       ·exact htm n t m h3
       ·rfl
      rw[hxm];exact ⟨o2,o3⟩) H7 (fun k hk=>hw1.sub k (.inl hk)) (fun k hk=>(hc2 k hk).imp (hFz k) id) hw1.lt
   refine ⟨F1,_,hframe.1,hframe.2,?_⟩
   have:=(DG hRn ys fs.outT.sl 0 (fun _=>.un) (fun _=>.un) (fun d v _=>.un v)).2 0 v hv1
   show aj T F1 w' _ _ (vj fs d e.r bx ys) v
   unfold vj
   rw[hnm]
   exact this
  ·
   simp only[Tm.flat,ao,Mk] at hflat
   have hbx0:fs.outT.bx=[]:=by
    have:=hflat.1
    split at this
    ·assumption
    ·simp at this
   have hframe:=tl (F':=F) (w':=w') (θ':=gW θ θ1 nm fs.outT.bx) hw hnd hk.os hk.tape hk.output hk.size hk.old H1 H2
    (fun b x hm hlv=>by
     rcases hin b x hm with ⟨_,n,kk,z,h1,rfl,h3,h4,h5⟩|⟨v,rfl,hv⟩
     ·rw[hbx0] at h1;simp[bL] at h1
     ·simp[Box.live] at hlv) H4 H5 (H6 F fun n kk z x q h1=>by rw[hbx0] at h1;simp[bL] at h1) H7 (fun k hk=>hk) (fun k hk=>.inl hk) (fun k hkk=>MS (hw.lt k hkk) hk.size)
   refine ⟨F,_,hframe.1,hframe.2,?_⟩
   show aj T F w' _ _ (vj fs d e.r bx ys) v
   unfold vj
   rw[hnm]
   have hfl:=hflat.2
   split at hfl
   ·rename_i d0 kk hsl
    rw[hsl]
    have hv2:aj T F1 w' (fs.outT.inj ys).bx θ1 ((cy nm0 ys fs.outT.sl 0 fun _=>.un).1 0) v:=hv1
    rw[hsl] at hv2
    show aj T F w' _ _ (upd (fun _=>V.un) d0 (kk.inst nm ys 0).1 0) v
    replace hv2:aj T F1 w' (fs.outT.inj ys).bx θ1 (upd (fun _=>V.un) d0 (kk.inst nm0 ys 0).1 0) v:=hv2
    by_cases hd:0=d0
    ·subst hd
     rw[ar] at hv2⊢
     exact (xS ys kk 0 hfl v hv2).1
    ·rw[aY _ _ hd]
     exact .un v
   ·simp at hfl
  ·
   simp only[Tm.pure,ao,Mk] at hpure
   have hFo:∀q,F q->F1 q:=fun q hq=>hw1.sub q (.inl hq)
   have hF'':∃F':Nat->Prop,(∀q,F q->F' q)/\(∀q,F' q->F q∨∃n z,(fs.outT.inj ys).bx n=some z/\z.nst T w' (θ1 n) q)/\∀n kk z x q,bL fs.outT.bx n=true->(n,kk)∈fs.outT.bx->(fs.outT.inj ys).bx n=some z->Two tr nm ys n kk z x->z.nst T w' (θ1 n) q->(2<=x.m->¬F' q)/\(¬2<=x.m->F' q):=by
    refine ⟨fun q=>F q∨∃n kk z x,(fs.outT.inj ys).bx n=some z/\(n,kk)∈fs.outT.bx/\Two tr nm ys n kk z x/\¬2<=x.m/\z.nst T w' (θ1 n) q,fun q h=>.inl h,fun q h=>h.imp id fun ⟨n,kk,z,x,a1,_,_,_,a5⟩=>⟨n,z,a1,a5⟩,fun n kk z x q h1 h3 h4 h5 hq=>⟨fun hx=>?_,fun hx=>.inr ⟨n,kk,z,x,h4,h3,h5,hx,hq⟩⟩⟩
    rintro (hF|⟨n',kk',z',x',a1,a2,a3,a4,a5⟩)
    ·obtain ⟨t,rfl⟩:=sR hpure.1 h3
     rcases h5.2.2 with ⟨t,ks,p',e1,_⟩|⟨t,es,m,e1,rfl,rfl⟩|⟨t,es,e1,_⟩
     ·simp at e1
     ·simp only[BSk.arr.injEq] at e1
      obtain ⟨rfl,rfl⟩:=e1
      have htt:tr t=true:=by
       rcases Bool.eq_false_or_eq_true (tr t) with h|h
       ·exact h
       ·simp only[Box.m] at hx
        rw[qX (.inl h)] at hx
        omega
      obtain ⟨_,_,_,o4,_⟩:=hw1.own n _ q h4 hq
      rcases o4 with h|⟨n',b,y,q1,q2,⟨q3,q4⟩|⟨q3,q4⟩⟩|⟨h,_⟩
      ·have:=hw.lt q hF
       have h:w.heap.size<=q:=h
       omega
      ·exact (hw.out b y q q2 q3 q4).1 hF
      ·exact (hw.own b y q q2 q4).2.1 q3 hF
      ·rcases htr with h'|h'
       ·rcases jQ h' h3 with a|a
        ·rw[htt] at a;simp at a
        ·exact a rfl
       ·rw[h'.2] at h;simp at h
     ·simp at e1
    ·have:=hw1.odj n n' z z' q h4 a1 hq a5
     subst this
     rw[h4] at a1;obtain rfl:=Mh a1
     rcases h5.2.2 with ⟨t,ks,p',e1,rfl,rfl⟩|⟨t,es,m,e1,rfl,rfl⟩|⟨t,es,e1,rfl,rfl⟩
     ·simp[Box.m] at hx
     ·rcases a3.2.2 with ⟨t',ks',p',e1',e2',rfl⟩|⟨t',es',m',e1',e2',rfl⟩|⟨t',es',e1',e2',rfl⟩
      ·simp at e2'
      ·simp only[Box.arr.injEq] at e2'
       obtain ⟨_,rfl,rfl,rfl⟩:=e2'
       exact a4 hx
      ·simp at e2'
     ·simp[Box.m] at hx
   obtain ⟨F',f1,f2,f3⟩:=hF''
   have hroot:∀n z g,(fs.outT.inj ys).bx n=some z->z.live=true->bJ (θ1 n)=some g->¬F' g/\g<w'.heap.size/\(w.heap.size<=g∨WrF T w bx θ e.r g):=by
    intro n z g hz hl hg
    obtain ⟨q1,q2,q3⟩:=hw1.out n z g hz hl hg
    refine ⟨fun hF=>?_,q2,q3⟩
    rcases f2 g hF with h|⟨n',z',h1,h2⟩
    ·exact q1 (hFo g h)
    ·exact (hw1.own n' z' g h1 h2).2.2.2.2 n z hz hl hg
   have hframe:=tl (F':=F') (w':=w') (θ':=gW θ θ1 nm fs.outT.bx) hw hnd hk.os hk.tape hk.output hk.size hk.old H1 H2
    (fun b x hm hlv=>by
     rcases hin b x hm with ⟨_,n,kk,z,h1,rfl,h3,h4,h5⟩|⟨v,rfl,hv⟩
     ·rw[hin' n h1]
      refine ⟨?_,fun g hg=>hroot n z g h4 (oc (T:=T) (w:=w) (v:=v) h5).1 hg⟩
      have hbz:=hw1.box n z h4
      have hlz:=hw1.lin n z h4
      have hq:=fun q=>f3 n kk z x q h1 h3 h4 h5
      obtain ⟨t,rfl⟩:=sR hpure.1 h3
      rcases h5.2.2 with ⟨t,ks,p',e1,_⟩|⟨t,es,m,e1,rfl,rfl⟩|⟨t,es,e1,_⟩
      ·simp at e1
      ·simp only[BSk.arr.injEq] at e1
       obtain ⟨rfl,rfl⟩:=e1
       exact iZ.HB hbz ((hlz (by decide)).1 (by decide)) (by unfold rY;cases az (tr t) (Nat.beq 1 1)<;>simp[sif]) (fun hm2 q hn=>(hq q ⟨by decide,hn⟩).2 hm2) (hin' n h1)
      ·simp at e1
     ·simp[Box.live] at hlv) H4 H5 (H6 F' f3) H7 f1 (fun q hq=>by
      rcases f2 q hq with h|⟨n,z,h1,h2⟩
      ·exact .inl h
      ·obtain ⟨_,_,_,o4,_⟩:=hw1.own n z q h1 h2
       rcases o4 with h|h|⟨_,n',b,y,q1,q2,q3,q4⟩
       ·exact .inr (.inl h)
       ·exact .inr (.inr h)
       ·exact .inl ((hw.own b y q q2 q4).2.2.1 q3)) (fun q hq=>by
      rcases f2 q hq with h|⟨n,z,h1,h2⟩
      ·exact MS (hw.lt q h) hk.size
      ·exact (hw1.own n z q h1 h2).1)
   refine ⟨F',_,hframe.1,hframe.2,?_⟩
   show aj T F' w' _ _ (vj fs d e.r bx ys) v
   unfold vj
   rw[hnm]
   have hfl:=hpure.2
   split at hfl
   ·rename_i d0 kk hsl
    rw[hsl]
    have hv2:aj T F1 w' (fs.outT.inj ys).bx θ1 ((cy nm0 ys fs.outT.sl 0 fun _=>.un).1 0) v:=hv1
    rw[hsl] at hv2
    show aj T F' w' _ _ (upd (fun _=>V.un) d0 (kk.inst nm ys 0).1 0) v
    replace hv2:aj T F1 w' (fs.outT.inj ys).bx θ1 (upd (fun _=>V.un) d0 (kk.inst nm0 ys 0).1 0) v:=hv2
    by_cases hd:0=d0
    ·subst hd
     rw[ar] at hv2⊢
     exact F4 hNm ys kk 0 hfl v hv2
    ·rw[aY _ _ hd]
     exact .un v
   ·simp at hfl
 ·simp at h
end
end Go.Ev
namespace Go.Ev
section
variable {P:Program} {T:Tys} {fr:Fr} {F:Nat->Prop} {w:World} {bx:Bxs} {θ:Nat->Value}
def bx0:Bxs:=fun _=>none
theorem Ki:∀ {ts:List CT} {vs:List V} {cs:List C} {f:List Nat},bF ts=true->j9 bx0 ts vs=some (cs,f)->cs.length=ts.length/\vs.length=ts.length/\f=[]/\
  ∀(i:Nat) (c:C) (t:CT),cs[i]?=some c->ts[i]?=some t->vs[i]?=some (.c t c)
 |[],[],cs,f,_,h=>by
  replace h:some (([]:List C),([]:List Nat))=some (cs,f):=h
  simp at h;obtain ⟨rfl,rfl⟩:=h
  exact ⟨rfl,rfl,rfl,fun i c t h=>by simp at h⟩
 |[],_::_,cs,f,_,h=>absurd (show (none:Option (List C×List Nat))=some (cs,f) from h) (by simp)
 |_::_,[],cs,f,_,h=>absurd (show (none:Option (List C×List Nat))=some (cs,f) from h) (by simp)
 |t::ts,v::vs,cs,f,hf,h=>by
  simp only[j9] at h
  have ht:t.flat=true:=cH hf 0 t rfl
  have hf':bF ts=true:=by cases t<;>simp_all [bF,CT.flat]
  split at h
  ·rename_i x f1 h1
   split at h
   ·rename_i xs g h2
    simp only[Mj,MG] at h
    obtain ⟨rfl,rfl⟩:=h
    obtain ⟨a1,a2,a3,a4⟩:=Ki hf' h2
    subst a3
    have hv:v=.c t x/\f1=[]:=by
     cases v with
     |c t' y=>
      replace h1:sif (jg t t') (some (y,([]:List Nat))) none=some (x,f1):=by cases t<;>exact h1
      cases hc:jg t t' with
      |false=>simp[hc,sif] at h1
      |true=>
       simp[hc,sif] at h1
       obtain ⟨rfl,rfl⟩:=h1
       exact ⟨by rw[gI hc],rfl⟩
     |_=>cases t<;>first|exact absurd (show (none:Option (C×List Nat))=some (x,f1) from h1) (by simp)|simp[CT.flat] at ht
    obtain ⟨rfl,rfl⟩:=hv
    refine ⟨by simp[a1],by simp[a2],rfl,fun i c t' hi ht'=>?_⟩
    cases i with
    |zero=>simp at hi ht';subst hi;subst ht';rfl
    |succ i=>simpa using a4 i c t' (by simpa using hi) (by simpa using ht')
   ·simp at h
  ·simp at h
mutual
theorem Ks:∀(k:Sk) (v:V) (val:Value) (e e':Ex),k.flat=true->aj T F w bx θ v val->k.ext T bx0 v e=some e'->
  e.le e'/\(∀nm xs,(k.inst nm xs e.xs.length).2=e'.xs.length)/\∀ef,e'.le ef->∀F' w' bx' θ',aj T F' w' bx' θ' (k.inst nm0 ef.xs.reverse e.xs.length).1 val
 |.un,v,val,e,e',_,hv,h=>by
  replace h:some e=some e':=by cases v<;>exact h
  simp only[Mj] at h
  subst h
  exact ⟨Ex.le_refl _,fun _ _=>rfl,fun ef _ F' w' bx' θ'=>.un _⟩
 |.d t,v,val,e,e',hk,hv,h=>by
  have ht:t.flat=true:=by cases t<;>first|rfl|simp[Sk.flat] at hk
  cases hv with
  |c t' x v hr=>
   replace h:sif (jg t t') (some (⟨x::e.xs,e.r,e.fz⟩:Ex)) none=some e':=by cases t<;>first|exact h|simp[CT.flat] at ht
   cases hc:jg t t' with
   |false=>simp[hc,sif] at h
   |true=>
    simp[hc,sif] at h
    subst h
    have:=gI hc;subst this
    refine ⟨e.push _,fun _ _=>rfl,fun ef hef F' w' bx' θ'=>?_⟩
    show aj T F' w' bx' θ' (.c t (ef.xs.reverse.getD e.xs.length .nil)) _
    rw[gn hef.xs]
    exact .c _ _ _ (hr.flat ht)
  |pt b ver off=>cases off<;>cases t<;>first|exact absurd (show (none:Option Ex)=some e' from h) (by simp)|exact absurd ht (by simp[CT.flat])
  |pe b ver ix off=>cases off<;>cases t<;>first|exact absurd (show (none:Option Ex)=some e' from h) (by simp)|exact absurd ht (by simp[CT.flat])
  |fa cts cs off=>cases off<;>cases t<;>first|exact absurd (show (none:Option Ex)=some e' from h) (by simp)|exact absurd ht (by simp[CT.flat])
  |_=>cases t<;>first|exact absurd (show (none:Option Ex)=some e' from h) (by simp)|exact absurd ht (by simp[CT.flat])
 |.ow n,v,val,e,e',hk,_,_=>by simp[Sk.flat] at hk
 |.mp n,v,val,e,e',hk,_,_=>by simp[Sk.flat] at hk
 |.pt n o,v,val,e,e',hk,_,_=>by simp[Sk.flat] at hk
 |.pe n o,v,val,e,e',hk,_,_=>by simp[Sk.flat] at hk
 |.fn f q,v,val,e,e',hk,_,_=>by simp[Sk.flat] at hk
 |.st ts,v,val,e,e',hk,hv,h=>by
  replace hk:bF ts=true:=hk
  cases hv with
  |ag vs o vals hl ho hr=>
   have key:∃cs,e'=⟨.p cs::e.xs,e.r,e.fz⟩/\cs.length=ts.length/\vs.length=ts.length/\∀(i:Nat) (c:C) (t:CT),cs[i]?=some c->ts[i]?=some t->vs[i]?=some (.c t c):=by
    cases o with
    |some x=>
     replace h:sif (ll ts vs) (some (⟨x::e.xs,e.r,e.fz⟩:Ex)) none=some e':=h
     cases hc:ll ts vs with
     |false=>simp[hc,sif] at h
     |true=>
      rw[hc,ai] at h
      simp only[Mj] at h
      subst h
      obtain ⟨cs,rfl,q1,q2⟩:=ho _ rfl
      obtain ⟨p1,p2⟩:=tn hc
      refine ⟨cs,rfl,by omega,p1,fun i c t a1 a2=>?_⟩
      have hi:i<vs.length:=by rw[p1];exact (Ml.1 a2).1
      obtain ⟨t',c',b1,b2⟩:=p2 i _ (Mg hi)
      obtain ⟨t2,b3⟩:=q2 i _ (Mg hi)
      rw[b2] at b3
      simp only[V.c.injEq] at b3
      rw[a2] at b1
      rw[Mg hi,b2,b3.2,Mm,a1,←Mh b1]
      rfl
    |none=>
     replace h:(match j9 bx0 ts vs with
      |some (cs,f)=>some (⟨.p cs::e.xs,e.r,app f e.fz⟩:Ex)
      |none=>none)=some e':=h
     split at h
     ·rename_i cs f hcs
      simp only[Mj] at h
      subst h
      obtain ⟨l1,l2,rfl,l4⟩:=Ki hk hcs
      exact ⟨cs,rfl,l1,l2,l4⟩
     ·simp at h
   obtain ⟨cs,rfl,q1,q2,q3⟩:=key
   refine ⟨e.push _,fun _ _=>rfl,fun ef hef F' w' bx' θ'=>?_⟩
   show aj T F' w' bx' θ' (.ag (eM ts (ef.xs.reverse.getD e.xs.length .nil).P 0 (len ts)) (some (ef.xs.reverse.getD e.xs.length .nil))) _
   rw[gn hef.xs]
   show aj T F' w' bx' θ' (.ag (eM ts cs 0 (len ts)) (some (.p cs))) _
   refine E5 q1 (by omega) fun i c t u a1 a2 a3=>?_
   have:=hr i _ u (q3 i c t a1 a2) a3
   cases this with
   |c _ _ _ hx=>exact hx.flat (cH hk _ _ a2)
  |_=>exact absurd (show (none:Option Ex)=some e' from h) (by simp)
 |.ag q,v,val,e,e',hk,hv,h=>by
  cases hv with
  |ag vs _ vals hl _ hr=>
   obtain ⟨h1,h2,h3,h4⟩:=EF q vs vals e e' hk hl hr h
   exact ⟨h1,h2,fun ef hef F' w' bx' θ'=>.ag _ _ _ (by rw[bD,hl,h3]) w8 (h4 ef hef F' w' bx' θ')⟩
  |_=>exact absurd (show (none:Option Ex)=some e' from h) (by simp)
 |.tu q,v,val,e,e',hk,hv,h=>by
  cases hv with
  |tu vs vals hl hr=>
   obtain ⟨h1,h2,h3,h4⟩:=EF q vs vals e e' hk hl hr h
   exact ⟨h1,h2,fun ef hef F' w' bx' θ'=>.tu _ _ (by rw[bD,hl,h3]) (h4 ef hef F' w' bx' θ')⟩
  |_=>exact absurd (show (none:Option Ex)=some e' from h) (by simp)
theorem EF:∀(ks:List Sk) (vs:List V) (vals:List Value) (e e':Ex),Sk.tT ks=true->vals.length=vs.length->(∀(i:Nat) (x:V) (v:Value),vs[i]?=some x->vals[i]?=some v->aj T F w bx θ x v)->
  Sk.exts T bx0 ks vs e=some e'->e.le e'/\(∀nm xs,(Sk.insts nm xs ks e.xs.length).2=e'.xs.length)/\vs.length=ks.length/\
  ∀ef,e'.le ef->∀F' w' bx' θ',∀(i:Nat) (x:V) (v:Value),(Sk.insts nm0 ef.xs.reverse ks e.xs.length).1[i]?=some x->vals[i]?=some v->aj T F' w' bx' θ' x v
 |[],[],vals,e,e',_,hl,hr,h=>by
  replace h:some e=some e':=h
  simp only[Mj] at h
  subst h
  exact ⟨Ex.le_refl _,fun _ _=>rfl,rfl,fun ef _ F' w' bx' θ' i x v hi=>by simp[Sk.insts] at hi⟩
 |[],_::_,vals,e,e',_,hl,hr,h=>absurd (show (none:Option Ex)=some e' from h) (by simp)
 |_::_,[],vals,e,e',_,hl,hr,h=>absurd (show (none:Option Ex)=some e' from h) (by simp)
 |k::ks,v::vs,[],e,e',_,hl,hr,h=>by simp at hl
 |k::ks,v::vs,u::us,e,e',hk,hl,hr,h=>by
  simp only[Sk.tT,ao,Mk] at hk
  replace h:(match k.ext T bx0 v e with
   |some e1=>Sk.exts T bx0 ks vs e1
   |none=>none)=some e':=h
  split at h
  ·rename_i e1 h1
   obtain ⟨a1,a2,a3⟩:=Ks k v u e e1 hk.1 (hr 0 v u rfl rfl) h1
   obtain ⟨b1,b2,b3,b4⟩:=EF ks vs us e1 e' hk.2 (by simpa using hl) (fun i x w h1 h2=>hr (i+1) x w (by simpa using h1) (by simpa using h2)) h
   refine ⟨a1.le_trans b1,fun nm xs=>?_,by simp[b3],fun ef hef F' w' bx' θ' i x z hi hz=>?_⟩
   ·show (Sk.insts nm xs ks (k.inst nm xs e.xs.length).2).2=_
    rw[a2,b2]
   ·cases i with
    |zero=>
     simp[Sk.insts] at hi hz
     subst hi;subst hz
     exact a3 ef (b1.le_trans hef) F' w' bx' θ'
    |succ i=>
     simp only[Sk.insts,M4] at hi hz
     rw[a2] at hi
     exact b4 ef hef F' w' bx' θ' i x z hi hz
  ·simp at h
end
theorem II {ρ:cu} {val:Nat->Value}:∀(q:List (Nat×Sk)) (i:Nat) (e e':Ex),y6 q i=true->(∀d,i<=d->aj T F w bx θ (ρ d) (val d))->rB T ⟨ρ,bx0⟩ q e=some e'->
  e.le e'/\(∀nm xs f,(cy nm xs q e.xs.length f).2=e'.xs.length)/\
  ∀ef,e'.le ef->∀F' w' bx' θ',∀f:cu,(∀d,d<i->(cy nm0 ef.xs.reverse q e.xs.length f).1 d=f d)/\∀d,i<=d->aj T F' w' bx' θ' (f d) (val d)->aj T F' w' bx' θ' ((cy nm0 ef.xs.reverse q e.xs.length f).1 d) (val d)
 |[],i,e,e',_,hr,h=>by
  replace h:some e=some e':=h
  simp only[Mj] at h
  subst h
  exact ⟨Ex.le_refl _,fun _ _ _=>rfl,fun ef _ F' w' bx' θ' f=>⟨fun d _=>rfl,fun d _ h=>h⟩⟩
 |(d,k)::r,i,e,e',hs,hr,h=>by
  simp only[y6,ao,Mk] at hs
  have hd:=Mi hs.1
  subst hd
  replace h:(match k.ext T bx0 (ρ d) e with
   |some e1=>rB T ⟨ρ,bx0⟩ r e1
   |none=>none)=some e':=h
  split at h
  ·rename_i e1 h1
   obtain ⟨a1,a2,a3⟩:=Ks k (ρ d) (val d) e e1 hs.2.1 (hr d (Mp _)) h1
   obtain ⟨b1,b2,b3⟩:=II r (d+1) e1 e' hs.2.2 (fun d' h=>hr d' (by omega)) h
   refine ⟨a1.le_trans b1,fun nm xs f=>?_,fun ef hef F' w' bx' θ' f=>?_⟩
   ·show (cy nm xs r (k.inst nm xs e.xs.length).2 _).2=_
    rw[a2,b2]
   ·obtain ⟨c1,c2⟩:=b3 ef hef F' w' bx' θ' (upd f d (k.inst nm0 ef.xs.reverse e.xs.length).1)
    have e0:cy nm0 ef.xs.reverse ((d,k)::r) e.xs.length f=cy nm0 ef.xs.reverse r e1.xs.length (upd f d (k.inst nm0 ef.xs.reverse e.xs.length).1):=by
     show cy nm0 ef.xs.reverse r (k.inst nm0 ef.xs.reverse e.xs.length).2 _=_
     rw[a2]
    rw[e0]
    refine ⟨fun d' hd=>by rw[c1 d' (by omega),aY _ _ (by omega)],fun d' hd hv=>?_⟩
    by_cases he:d'=d
    ·subst he
     rw[c1 d' (by omega),ar]
     exact a3 ef (b1.le_trans hef) F' w' bx' θ'
    ·exact c2 d' (by omega) (by rw[aY _ _ he];exact hv)
  ·simp at h
theorem Ix {fs:FS} {e:TypeId} (h:La fs e=true):∃n q k,fs.inT=⟨(0,.ow n)::q,[(n,.arr e 2)]⟩/\fs.outT=⟨[(0,k)],[(n,.arr e 2)]⟩/\fs.ip=[n]/\k.flat=true/\y6 q 1=true:=by
 unfold La at h
 split at h
 ·rename_i n q n1 t1 k n2 t2 n3 h1 h2 h3
  simp only[ao,Mk] at h
  obtain ⟨⟨⟨a1,a2⟩,a3,a4,a5⟩,a6,a7⟩:=h
  have e1:=Mi a1;subst e1
  have e2:=Mi a2;subst e2
  have e3:=Mi a3;subst e3
  have e4:=Mi a4;subst e4
  have e5:=Mi a5;subst e5
  exact ⟨_,q,k,h1,h2,h3,a6,a7⟩
 ·simp at h
theorem ji.box {e:TypeId} {de:TD} {c:C} {v:Value} (h:ji T w (.sl e) c v) (hd:bj T e=some de):∃es,c=.l es/\(∃A cap,v=.slice A es.length cap)/\qu T w e es v/\(∀k,bJ v=some k->InT T w (.sl e) c v k/\¬Nst T w e es v k)/\
  ∀(F:Nat->Prop) (bx:Bxs) (θ:Nat->Value) (n:Nat),θ n=v->iZ T F w bx θ n (.arr 0 e es 2):=by
 cases h with
 |base _ _ _ hb hs=>
  obtain rfl:=hs e rfl
  generalize hv:Value.slice none 0 0=v at hb
  cases hb with
  |sl0 e a cap=>
   simp only[ML,true_and] at hv
   obtain ⟨rfl,rfl⟩:=hv
   exact ⟨[],rfl,⟨_,_,rfl⟩,wI,fun k h=>by simp[bJ] at h,fun F bx θ n hθ=>⟨de,none,0,hd,hθ,fun i c h=>by simp at h,.inl ⟨rfl,rfl,rfl⟩⟩⟩
  |sl _ _ _ _ _ _ _ _ hF=>exact hF.elim
 |sl _ d es g o cap arr hd' hg hs hc hlen hr hn hj=>
  rw[hd] at hd';obtain rfl:=Mh hd'
  refine ⟨es,rfl,⟨_,_,rfl⟩,⟨hr,hj⟩,fun k hk=>?_,fun F bx θ n hθ=>⟨de,_,cap,hd,hθ,hlen,.inr ⟨g,o,arr,rfl,hg,hs,hc,fun i c j x ct u a1 a2 a3 a4=>?_⟩⟩⟩
  ·simp only[bJ,Mj] at hk
   subst hk
   exact ⟨.root _ _ _ _ _ _,hn⟩
  ·exact hr i j ct x u ((dE hd hg).2 ⟨c,a1,a2,a3,by rw[MB];simpa using a4⟩)
theorem G3 {g:FuncId} {fs:FS} (hX:oh P T g fs) (hw:WR T fr F w bx θ) {b ver off:Nat} {ix:Int} {e:TypeId} {vs:List V} {args:Array Value} (hl:args.toList.length=vs.length+1)
  (hr:∀(i:Nat) (x:V) (v:Value),(V.rf b ver ix off e::vs)[i]?=some x->args.toList[i]?=some v->aj T F w bx θ x v) {k:Eff->List Nat->R} {r:Out} (h:Co T fs b ver ix off e vs bx k=some r):
  ∃e rd,k e rd=some r/\Calls P g args w fun en w'=>∃v,en=.returned v/\Aft T fr F w bx θ e v w':=by
 unfold Co at h
 replace h:=kR h;obtain ⟨y,hy,h⟩:=h
 split at h
 ·rename_i v t es m
  replace h:=kS h;obtain ⟨c1,h⟩:=h
  replace h:=kS h;obtain ⟨c2,h⟩:=h
  replace h:=kO h;obtain ⟨de,hde,h⟩:=h
  replace h:=kO h;obtain ⟨x,hx,h⟩:=h
  simp only[ao,Mk] at c1
  obtain ⟨c1,c3,c4⟩:=c1
  have c1:=Mi c1;subst c1
  have c3:=Mi c3;subst c3
  have c2:=Mi c2
  rw[dA] at c2
  obtain ⟨n,q,k0,f1,f2,f3,hk0,hq⟩:=Ix c4
  replace h:im (fs.F (rev (((es.getD ix.toNat []).getD off .nil)::x.xs) [])) _=some r:=h
  unfold im at h
  split at h
  ·rename_i ys hys
   have hlen:0<args.toList.length:=by omega
   generalize hvb:args.toList[0]=vb at*
   have hb:=hr 0 _ vb rfl (by rw[Mg hlen,hvb])
   cases hb with
   |rf _ _ _ _ _ _ y' hb' hv hs hh=>
   rw[hy] at hb';obtain rfl:=Mh hb'
   obtain ⟨t2,es2,d,gb,ob,capb,e1,hd,h0,hlt,hth,hoff,hcell⟩:=hh rfl rfl
   simp only[Box.arr.injEq,true_and,and_true] at e1
   obtain ⟨rfl,rfl⟩:=e1
   have hix:ix.toNat<es.length:=by omega
   obtain ⟨d2,A,cap,hd2,hth2,hrl,hA⟩:=hw.box b _ hy
   rw[hd] at hd2;obtain rfl:=Mh hd2
   rw[hth] at hth2
   simp only[ML,true_and] at hth2
   obtain ⟨rfl,rfl⟩:=hth2
   rcases hA with ⟨hn,_⟩|⟨gb',ob',cs,hAe,hg,hsz,hcap,hrel⟩
   ·simp at hn
   simp only[Mj,Addr.mk.injEq,and_true] at hAe
   obtain ⟨rfl,rfl⟩:=hAe
   have hes:es[ix.toNat]?=some es[ix.toNat]:=Mg hix
   have hoff':off<d.cts.length:=(Ml.1 hoff).1
   have hrow:=hrl _ _ hes
   have hro:off<es[ix.toNat].length:=by omega
   have hc0:es[ix.toNat][off]?=some (es[ix.toNat][off]):=Mg hro
   have hgd:(es.getD ix.toNat []).getD off .nil=es[ix.toNat][off]:=by
    rw[Mm,Mm,hes]
    show (es[ix.toNat][off]?).getD .nil=_
    rw[hc0];rfl
   rw[hgd] at hys
   generalize hcc:es[ix.toNat][off]=c0 at*
   have hat:cM T w t es (θ b) ix.toNat off (.sl e) c0 vb:=⟨d,gb,ob,_,_,_,hd,hth,hes,hc0,hoff,hcell⟩
   have hlin:qu T w t es (θ b):=(hw.lin b _ hy (by decide)).1 (by decide)
   have hrl0:ji T w (.sl e) c0 vb:=hlin.rel _ _ _ _ _ hat
   obtain ⟨L,rfl,⟨A0,cap0,hvs⟩,hLb,hroot,hbox⟩:=hrl0.box hde
   have hin:∀q,InT T w (.sl e) (.l L) vb q->(Box.arr v t es 2).nst T w (θ b) q:=fun q hq=>⟨by decide,_,_,_,_,_,hat,hq⟩
   obtain ⟨x1,x2,x3⟩:=II (T:=T) (F:=F) (w:=w) (bx:=bx) (θ:=θ) (ρ:=fun k=>match k with|0=>.un|k+1=>nth .un vs k) (val:=fun d=>args.getD d undef) q 1 ⟨[],[],[]⟩ x hq (fun d hd=>by
    cases d with
    |zero=>omega
    |succ d=>
     show aj T F w bx θ (nth .un vs d) _
     rw[sZ]
     simp only[Mm]
     rcases Nat.lt_or_ge d vs.length with h|h
     ·rw[Mg h]
      exact hr (d+1) _ _ (by simp[Mg h]) (by rw[Array.getElem?_toList,M5 (by have:=hl;simp at this;omega)];simp[Array.getD,show d+1<args.size by have:=hl;simp at this;omega])
     ·rw[M7 h];exact .un _) (by
    have:=hx
    rw[f1] at this
    exact this)
   have hinjb:(fs.inT.inj (rev (.l L::x.xs) [])).bx=upd (fun _=>none) n (some (Box.arr 0 e L 2)):=by
    rw[f1,rev_eq,M1]
    show ck nm0 _ [(n,.arr e 2)] (cy nm0 (C.l L::x.xs).reverse q 0 (upd (fun _=>.un) 0 (.ow n 0))).2 _=_
    have:=x2 nm0 (C.l L::x.xs).reverse (upd (fun _=>.un) 0 (.ow n 0))
    simp only[Mo] at this
    rw[this]
    show upd (fun _=>none) n (some (Box.arr 0 e ((C.l L::x.xs).reverse.getD x.xs.length .nil).L 2))=_
    rw[gn (x:=C.l L) (l:=x.xs) (xs:=C.l L::x.xs) ⟨[],rfl⟩];rfl
   have hinjs:(fs.inT.inj (rev (.l L::x.xs) [])).sl=(cy nm0 (C.l L::x.xs).reverse q 0 (upd (fun _=>.un) 0 (.ow n 0))).1:=by
    rw[f1,rev_eq,M1];rfl
   have one:∀m z,upd (fun _=>none) n (some (Box.arr 0 e L 2)) m=some z->m=n/\z=.arr 0 e L 2:=by
    intro m z hz
    by_cases hm:m=n
    ·subst hm;rw[ar] at hz;exact ⟨rfl,(Mh hz).symm⟩
    ·rw[aY _ _ hm] at hz;simp at hz
   have hwc:WR T ⟨w,InT T w (.sl e) (.l L) vb,F,fun _=>vb,fs.ip,fun _=>False⟩ F w (fs.inT.inj (rev (.l L::x.xs) [])).bx (fun _=>vb):=by
    rw[hinjb,f3]
    refine ⟨fun m z hz=>?_,fun m m' z z' g hz hz' _ _ _ _=>?_,fun m z g hz _ hg=>?_,hw.lt,⟨rfl,rfl,⟨rfl,Mp _⟩,Mp _,fun _ _ _=>rfl⟩,fun _ h=>h,fun _ h=>.inl h,fun m hm=>?_,fun m z hz=>?_,fun m z g hz hg=>?_,fun m m' z z' g hz hz' _ _=>?_,fun _ h=>h.elim⟩
    ·obtain ⟨rfl,rfl⟩:=one m z hz;exact hbox _ _ _ _ rfl
    ·exact (one m z hz).1.trans (one m' z' hz').1.symm
    ·obtain ⟨r1,_⟩:=hroot g hg
     obtain ⟨o1,o2,_⟩:=hw.own b _ g hy (hin g r1)
     exact ⟨o2 (Mp 2),o1,.inr r1⟩
    ·obtain rfl:=MH.1 hm
     exact ⟨_,ar _ _ _,fun _=>⟨rfl,fun _ _ _ _ _ _ _ _ _ _ h=>h⟩⟩
    ·obtain ⟨rfl,rfl⟩:=one m z hz;exact fun _=>hLb.toM
    ·obtain ⟨rfl,rfl⟩:=one m z hz
     obtain ⟨i,j,ct,c,u,p1,p2⟩:=hg.2
     have hg':InT T w (.sl e) (.l L) vb g:=.sub _ _ _ _ _ _ _ _ _ p1 p2
     obtain ⟨o1,o2,_⟩:=hw.own b _ g hy (hin g hg')
     exact ⟨o1,fun _=>o2 (Mp 2),fun h=>absurd (Mp 2) h,.inr (.inl hg'),fun b' z' _ _ hk=>(hroot g hk).2 hg.2⟩
    ·exact (one m z hz).1.trans (one m' z' hz').1.symm
   have hcall:=hX.calls w _ _ _ _ (rev (.l L::x.xs) []) ys args hwc (by rw[←c2];simpa using hl) (fun d _=>by
    rw[hinjs,hinjb]
    obtain ⟨p1,p2⟩:=x3 ⟨.l L::x.xs,x.r,x.fz⟩ (x.push _) F w (upd (fun _=>none) n (some (Box.arr 0 e L 2))) (fun _=>vb) (upd (fun _=>.un) 0 (.ow n 0))
    cases d with
    |zero=>
     have:=p1 0 (by omega)
     simp only[Mo] at this
     rw[this,ar]
     have ha:args.getD 0 undef=vb:=by rw[←hvb];simp[Array.getD,show 0<args.size by simpa using hlen]
     rw[ha]
     exact .ow n 0 _ _ (ar _ _ _) (Mp _) ⟨_,_,_,hvs⟩ fun _=>⟨_,_,_,rfl,rfl⟩
    |succ d=>
     have:=p2 (d+1) (by omega) (by rw[aY _ _ (by omega)];exact .un _)
     exact this) hys
   refine ⟨_,_,h,Calls.mono hcall ?_⟩
   rintro en w' ⟨vr,F1,θ1,rfl,hw1,hv1,hkept⟩
   refine ⟨vr,rfl,?_⟩
   clear h hcall hX
   have hp0:∃p0,(k0.inst nm0 ys 0).2=p0:=⟨_,rfl⟩
   obtain ⟨p0,hp0⟩:=hp0
   have houtb:(fs.outT.inj ys).bx=upd (fun _=>none) n (some (Box.arr 0 e (ys.getD p0 .nil).L 2)):=by
    rw[f2,←hp0];rfl
   have houts:(fs.outT.inj ys).sl 0=(k0.inst nm0 ys 0).1:=by
    rw[f2]
    show upd (fun _=>V.un) 0 (k0.inst nm0 ys 0).1 0=_
    rw[ar]
   rw[houtb] at hw1 hv1 hkept
   rw[houts] at hv1
   have hnb:=ar (fun _=>(none:Option Box)) n (some (Box.arr 0 e (ys.getD p0 .nil).L 2))
   obtain ⟨hθ,hhdr⟩:=hkept n _ (by rw[f3];simp) hnb
   replace hhdr:=hhdr rfl
   generalize hL':(ys.getD p0 .nil).L=L' at*
   obtain ⟨l1,l2⟩:=tv hw1 hnb (by decide) (by decide)
   rw[hθ] at l1 l2
   have hk:=hw1.keep
   have hreg:∀q,InT T w' (.sl e) (.l L') vb q->q<w'.heap.size/\¬F q/\(w.heap.size<=q∨InT T w (.sl e) (.l L) vb q):=fun q hq=>by
    rcases l2 q hq with h|h
    ·obtain ⟨o1,o2,o3⟩:=hw1.out n _ q hnb rfl (by rw[hθ];exact h)
     exact ⟨o2,fun hF=>o1 (hw1.sub q hF),o3⟩
    ·obtain ⟨o1,o2,_,o4,_⟩:=hw1.own n _ q hnb ⟨by decide,by rw[hθ];exact h⟩
     refine ⟨o1,fun hF=>o2 (Mp 2) (hw1.sub q hF),?_⟩
     rcases o4 with h|h|h
     ·exact .inl h
     ·exact .inr h
     ·exact h.elim
   have hkold:∀q,q<w.heap.size->¬(Box.arr v t es 2).nst T w (θ b) q->w'.heap[q]?=w.heap[q]?:=fun q h1 h2=>hk.old q h1 fun h=>h2 (hin q h)
   have hkF:∀q,F q->w'.heap[q]?=w.heap[q]?:=fun q hq=>hkold q (hw.lt q hq) fun h=>(hw.own b _ q hy h).2.1 (Mp 2) hq
   have hkR:∀c z q,bx c=some z->z.live=true->bJ (θ c)=some q->w'.heap[q]?=w.heap[q]?:=fun c z q hz hlv hg=>hkold q (hw.out c z q hz hlv hg).2.1 fun h=>(hw.own b _ q hy h).2.2.2.2 c z hz hlv hg
   have hkN:∀c z q,c≠b->bx c=some z->z.nst T w (θ c) q->w'.heap[q]?=w.heap[q]?:=fun c z q hne hz hq=>hkold q (hw.own c z q hz hq).1 fun h=>hne (hw.odj c b z _ q hz hy hq h)
   have hgb:w'.heap[gb]?=w.heap[gb]?:=hkR b _ gb hy rfl (by rw[hth];rfl)
   have hgb':w'.heap[gb]?=some (.cells cs t (0,0)):=hgb.trans hg
   have cellBack:∀i j ct c u,cM T w' t (es.set ix.toNat (aB (es.getD ix.toNat []) off [.l L'])) (θ b) i j ct c u->(i=ix.toNat/\j=off/\c=.l L'/\ct=.sl e/\u=vb)∨(¬(i=ix.toNat/\j=off)/\cM T w t es (θ b) i j ct c u/\(∀q,InT T w' ct c u q->InT T w ct c u q)/\∀q,InT T w ct c u q->w'.heap[q]?=w.heap[q]?):=by
    intro i j ct c u hcl
    have hcl:cM T w t (es.set ix.toNat (aB (es.getD ix.toNat []) off [.l L'])) (θ b) i j ct c u:=hcl.mv' fun g o n cap e1=>by
     rw[hth] at e1
     simp only[ML,Mj,Addr.mk.injEq] at e1
     obtain ⟨⟨rfl,_⟩,_⟩:=e1
     exact hgb
    rcases FH hes hro hcl with ⟨rfl,rfl,rfl⟩|⟨hne,hcl⟩
    ·refine .inl ⟨rfl,rfl,rfl,?_⟩
     obtain ⟨d',g',o',m',cap',row,p1,p2,p3,p4,p5,p6⟩:=hcl
     rw[hd] at p1;obtain rfl:=Mh p1
     rw[hth] at p2
     simp only[ML,Mj,Addr.mk.injEq,and_true] at p2
     obtain ⟨⟨rfl,rfl⟩,_⟩:=p2
     rw[hoff] at p5
     rw[hcell] at p6
     exact ⟨(Mh p5).symm,(Mh p6).symm⟩
    ·have hsame:∀q,InT T w ct c u q->w'.heap[q]?=w.heap[q]?:=fun q hq=>by
      have hnq:(Box.arr v t es 2).nst T w (θ b) q:=⟨by decide,_,_,_,_,_,hcl,hq⟩
      exact hk.old q (hw.own b _ q hy hnq).1 fun h=>hne (hlin.dj _ _ _ _ _ _ _ _ _ _ q hcl hat hq h)
     exact .inr ⟨hne,hcl,fun q hq=>hq.mv' hsame,hsame⟩
   have hnew:∀q,Nst T w' t (es.set ix.toNat (aB (es.getD ix.toNat []) off [.l L'])) (θ b) q->(InT T w' (.sl e) (.l L') vb q)∨(Box.arr v t es 2).nst T w (θ b) q:=by
    rintro q ⟨i,j,ct,c,u,p1,p2⟩
    rcases cellBack i j ct c u p1 with ⟨_,_,rfl,rfl,rfl⟩|⟨_,h1,h2,_⟩
    ·exact .inl p2
    ·exact .inr ⟨by decide,_,_,_,_,_,h1,h2 q p2⟩
   have hrelN:∀i j ct c u,cM T w' t (es.set ix.toNat (aB (es.getD ix.toNat []) off [.l L'])) (θ b) i j ct c u->ji T w' ct c u:=by
    intro i j ct c u p1
    rcases cellBack i j ct c u p1 with ⟨_,_,rfl,rfl,rfl⟩|⟨_,h1,h2,h3⟩
    ·exact l1
    ·exact (hlin.rel _ _ _ _ _ h1).mv h3
   have hlen':(es.set ix.toNat (aB (es.getD ix.toNat []) off [.l L'])).length=es.length:=MI ..
   have mv:Mv F w bx θ F w' (upd bx b (some (.arr v t (es.set ix.toNat (aB (es.getD ix.toNat []) off [.l L'])) 2))) θ:=by
    refine ⟨fun _ h=>h,hkF,fun c z hz=>?_⟩
    have hh:∀g o n cap,θ c=.slice (some ⟨g,o,none⟩) n cap->z.live=true->∀p A l q,w.cell? ⟨g,p,none⟩=some (.slice A l q)->w'.cell? ⟨g,p,none⟩=some (.slice A l q):=fun g o n cap e1 hlv p A l q hc=>by
     rw[fZ (hkR c z g hz hlv (by rw[e1];rfl))];exact hc
    by_cases hc:c=b
    ·subst hc
     rw[hy] at hz;obtain rfl:=Mh hz
     exact ⟨_,ar _ _ _,Mp _,fun _=>⟨⟨rfl,hlen'.symm⟩,rfl,fun _=>⟨rfl,fun g o n cap e1=>hh g o n cap e1 rfl⟩⟩⟩
    ·refine ⟨z,by rw[aY _ _ hc];exact hz,Mp _,fun _=>⟨z.kI,rfl,fun h=>⟨h,fun g o n cap e1=>hh g o n cap e1 ?_⟩⟩⟩
     have hm:z.m=2:=h
     cases z<;>first|rfl|simp[Box.m] at hm
   have hget:∀c z,upd bx b (some (.arr v t (es.set ix.toNat (aB (es.getD ix.toNat []) off [.l L'])) 2)) c=some z->(c=b/\z=.arr v t (es.set ix.toNat (aB (es.getD ix.toNat []) off [.l L'])) 2)∨(c≠b/\bx c=some z):=by
    intro c z hz
    by_cases hc:c=b
    ·subst hc;rw[ar] at hz;exact .inl ⟨rfl,(Mh hz).symm⟩
    ·rw[aY _ _ hc] at hz;exact .inr ⟨hc,hz⟩
   have hroots:∀c z,upd bx b (some (.arr v t (es.set ix.toNat (aB (es.getD ix.toNat []) off [.l L'])) 2)) c=some z->z.live=true->∃z',bx c=some z'/\z'.live=true:=by
    intro c z hz hlv
    rcases hget c z hz with ⟨rfl,rfl⟩|⟨_,h⟩
    ·exact ⟨_,hy,rfl⟩
    ·exact ⟨z,h,hlv⟩
   have hbk:∀c z q,c≠b->bx c=some z->z.nst T w' (θ c) q->z.nst T w (θ c) q:=fun c z q hne hz hq=>by
    have hlv:z.live=true:=by cases z<;>first|rfl|exact hq.elim
    exact CH hq (fun g hg=>hkR c z g hz hlv hg) fun q hq=>hkN c z q hne hz hq
   have hwr:∀q,InT T w (.sl e) (.l L) vb q->fr.w0.heap.size<=q∨fr.wr q:=fun q hq=>by
    obtain ⟨_,o2,_,o4,_⟩:=hw.own b _ q hy (hin q hq)
    rcases o4 with h|h|h
    ·exact .inl h
    ·exact .inr h
    ·exact absurd (hw.nlF q h) (o2 (Mp 2))
   have hback2:∀q,Nst T w' t (es.set ix.toNat (aB (es.getD ix.toNat []) off [.l L'])) (θ b) q->q<w'.heap.size/\¬F q/\(w.heap.size<=q∨(Box.arr v t es 2).nst T w (θ b) q):=fun q hq=>by
    rcases hnew q hq with h|h
    ·obtain ⟨r1,r2,r3⟩:=hreg q h
     exact ⟨r1,r2,r3.imp id (hin q)⟩
    ·obtain ⟨o1,o2,_⟩:=hw.own b _ q hy h
     exact ⟨MS o1 hk.size,o2 (Mp 2),.inr h⟩
   have hsl0:fs.outT.sl=[(0,k0)]:=by rw[f2]
   rw[hsl0]
   show Aft T fr F w bx θ ⟨(k0.inst nm0 ys 0).1,[(b,.arr v t (es.set ix.toNat (aB (es.getD ix.toNat []) off [.l (ys.getD (k0.inst nm0 ys 0).2 .nil).L])) 2)]⟩ vr w'
   rw[hp0,hL']
   refine ⟨F,θ,⟨?_,?_,?_,fun q hq=>MS (hw.lt q hq) hk.size,?_,hw.sub,hw.new,sw hw.stay mv,?_,?_,?_,hw.nlF⟩,mv,?_⟩
   ·intro c z hz
    rcases hget c z hz with ⟨rfl,rfl⟩|⟨hne,h⟩
    ·refine ⟨d,_,_,hd,by rw[hlen'];exact hth,fun i row hrw=>?_,.inr ⟨gb,ob,cs,rfl,hgb',hsz,by rw[hlen'];exact hcap,fun i row j z ct u a1 a2 a3 a4=>?_⟩⟩
     ·rw[M9] at hrw
      by_cases hi:ix.toNat=i
      ·subst hi
       rw[if_pos rfl,if_pos hix] at hrw
       obtain rfl:=Mh hrw
       have hgr:es.getD ix.toNat []=es[ix.toNat]:=by rw[Mm,hes];rfl
       rw[hgr]
       unfold aB
       rw[eC (by simp;omega)];exact hrow
      ·rw[if_neg hi] at hrw
       exact hrl _ _ hrw
     ·refine hrelN i j ct z u ?_
      rw[hth]
      exact (dE hd hgb').2 ⟨row,a1,a2,a3,by rw[MB];simpa using a4⟩
    ·cases hlv:z.live with
     |true=>exact (hw.box c z h).mv mv rfl (fun g hg=>hkR c z g h hlv hg) fun q hq=>hkN c z q hne h hq
     |false=>cases z<;>first|trivial|simp[Box.live] at hlv
   ·intro c c' z z' g hz hz' hlv hlv' hg hg'
    obtain ⟨y1,a1,a2⟩:=hroots c z hz hlv
    obtain ⟨y2,b1,b2⟩:=hroots c' z' hz' hlv'
    exact hw.disj c c' y1 y2 g a1 b1 a2 b2 hg hg'
   ·intro c z g hz hlv hg
    obtain ⟨y1,a1,a2⟩:=hroots c z hz hlv
    obtain ⟨o1,o2,o3⟩:=hw.out c y1 g a1 a2 hg
    exact ⟨o1,MS o2 hk.size,o3⟩
   ·refine hw.keep.next hk.os hk.tape hk.output hk.size fun q h1 h2=>hk.old q (MS h1 hw.keep.size) fun h=>?_
    rcases hwr q h with h|h
    ·omega
    ·exact h2 h
   ·intro c z hz
    rcases hget c z hz with ⟨rfl,rfl⟩|⟨hne,h⟩
    ·refine fun _=>qu.toM ⟨hrelN,fun i j ct c u i' j' ct' c' u' q p1 p2 p3 p4=>?_⟩
     rcases cellBack i j ct c u p1 with ⟨rfl,rfl,rfl,rfl,rfl⟩|⟨hne1,h1,h2,h3⟩<;>rcases cellBack i' j' ct' c' u' p2 with ⟨rfl,rfl,rfl,rfl,rfl⟩|⟨hne2,h1',h2',h3'⟩
     ·exact ⟨rfl,rfl⟩
     ·exfalso
      have hq2:=h2' q p4
      rcases (hreg q p3).2.2 with h|h
      ·have:=(hw.own _ _ q hy ⟨by decide,_,_,_,_,_,h1',hq2⟩).1;omega
      ·exact hne2 (hlin.dj _ _ _ _ _ _ _ _ _ _ q h1' hat hq2 h)
     ·exfalso
      have hq2:=h2 q p3
      rcases (hreg q p4).2.2 with h|h
      ·have:=(hw.own _ _ q hy ⟨by decide,_,_,_,_,_,h1,hq2⟩).1;omega
      ·exact hne1 (hlin.dj _ _ _ _ _ _ _ _ _ _ q h1 hat hq2 h)
     ·exact hlin.dj _ _ _ _ _ _ _ _ _ _ q h1 h1' (h2 q p3) (h2' q p4)
    ·cases hlv:z.live with
     |true=>exact BE (hw.lin c z h) (fun g hg=>hkR c z g h hlv hg) fun q hq=>hkN c z q hne h hq
     |false=>cases z<;>first|trivial|simp[Box.live] at hlv
   ·intro c z q hz hq
    rcases hget c z hz with ⟨rfl,rfl⟩|⟨hne,h⟩
    ·obtain ⟨r1,r2,r3⟩:=hback2 q hq.2
     refine ⟨r1,fun _=>r2,fun h=>absurd (Mp 2) h,?_,fun c' z' hz' hlv' hg'=>?_⟩
     ·rcases r3 with h|h
      ·exact .inl (MR hw.keep.size h)
      ·exact (hw.own _ _ q hy h).2.2.2.1
     ·obtain ⟨y1,a1,a2⟩:=hroots c' z' hz' hlv'
      rcases r3 with h|h
      ·have:=(hw.out c' y1 q a1 a2 hg').2.1;omega
      ·exact (hw.own _ _ q hy h).2.2.2.2 c' y1 a1 a2 hg'
    ·obtain ⟨o1,o2,o3,o4,o5⟩:=hw.own c z q h (hbk c z q hne h hq)
     refine ⟨MS o1 hk.size,o2,o3,o4,fun c' z' hz' hlv' hg'=>?_⟩
     obtain ⟨y1,a1,a2⟩:=hroots c' z' hz' hlv'
     exact o5 c' y1 a1 a2 hg'
   ·have cross:∀c z q,c≠b->bx c=some z->z.nst T w' (θ c) q->Nst T w' t (es.set ix.toNat (aB (es.getD ix.toNat []) off [.l L'])) (θ b) q->False:=by
     intro c z q hne h hq hq'
     have hq:=hbk c z q hne h hq
     rcases (hback2 q hq').2.2 with h1|h1
     ·have:=(hw.own c z q h hq).1;omega
     ·exact hne (hw.odj c b z _ q h hy hq h1)
    intro c c' z z' q hz hz' hq hq'
    rcases hget c z hz with ⟨rfl,rfl⟩|⟨hne,h⟩<;>rcases hget c' z' hz' with ⟨rfl,rfl⟩|⟨hne',h'⟩
    ·rfl
    ·exact (cross c' z' q hne' h' hq' hq.2).elim
    ·exact (cross c z q hne h hq hq'.2).elim
    ·exact hw.odj c c' z z' q h h' (hbk c z q hne h hq) (hbk c' z' q hne' h' hq')
   ·exact (xS (nm:=nm0) ys k0 0 hk0 vr hv1).1
  ·simp at h
 ·exact (aC h).elim
end
end Go.Ev
namespace Go.Ev
section
variable {P:Program} {X:Cx} {fr:Fr} {F:Nat->Prop} {w:World} {bx:Bxs} {θ:Nat->Value}
theorem HA {T:Tys} {t:TypeId} {v:V} {u:Value} (h:aj T F w bx θ v u):aj T F w bx θ (HC T t v) u:=by
 unfold HC
 split
 ·rename_i cts cs
  split
  ·rename_i e cts' n ht
   split
   ·rename_i d hd
    cases hc:qn cts d.cts with
    |false=>exact h
    |true=>
     rw[ai]
     have:=yJ hc
     subst this
     cases h with
     |fa _ _ _ g o cv hF hlen hcc hr=>exact .c _ _ _ (.pt e d cs g o cv hd hF hlen hcc hr)
   ·exact h
  ·exact h
 ·exact h
theorem A8 {T:Tys}:∀(ts:List TypeId) {vs:List V} {us:List Value},(us.length=vs.length/\∀(i:Nat) (y:V) (u:Value),vs[i]?=some y->us[i]?=some u->aj T F w bx θ y u)->
  us.length=(oB T ts vs).length/\∀(i:Nat) (y:V) (u:Value),(oB T ts vs)[i]?=some y->us[i]?=some u->aj T F w bx θ y u
 |[],vs,us,h=>by cases vs<;>exact h
 |t::ts,[],us,h=>h
 |t::ts,v::vs,[],h=>by simp at h
 |t::ts,v::vs,u::us,h=>by
  obtain ⟨h1,h2⟩:=h
  obtain ⟨a,b⟩:=A8 ts (vs:=vs) (us:=us) ⟨by simpa using h1,fun i y u q1 q2=>h2 (i+1) y u (by simpa using q1) (by simpa using q2)⟩
  refine ⟨by simp[oB,←a],fun i y u' q1 q2=>?_⟩
  cases i with
  |zero=>
   simp[oB] at q1 q2
   subst q1;subst q2
   exact HA (h2 0 v u rfl rfl)
  |succ i=>exact b i y u' (by simpa [oB] using q1) (by simpa using q2)
theorem Iu {T:Tys} {tr:Nat->Bool} {g:FuncId} {fs:FS} (hX:oh P T g fs) (hw:WR T fr F w bx θ) {vs:List V} {args:Array Value} (hl:args.toList.length=vs.length)
  (hr:∀(i:Nat) (x:V) (v:Value),vs[i]?=some x->args.toList[i]?=some v->aj T F w bx θ x v) {d:Nat} {k:Eff->List Nat->R} {r:Out} (h:y0 T tr fs d vs bx k=some r):
  ∃e rd,k e rd=some r/\Calls P g args w fun en w'=>∃v,en=.returned v/\Aft T fr F w bx θ e v w':=by
 unfold y0 at h
 split at h
 ·obtain ⟨e,rd,h1,h2⟩:=G3 hX hw (by simpa using hl) hr h
  exact ⟨e,rd,h1,h2⟩
 ·exact Ir hX hw hl hr h
theorem Iy (hX:Env P X) (hw:WR X.T fr F w bx θ) {ρ:cu} {a:Act} (ho:∀x,aj X.T F w bx θ (bX ρ x) (a.eval x)) {o:Oper} {k:Eff->List Nat->R} {r:Out} {c:Call} {f:Operand}
  (hop:o.op=.call c) (hc:c.callee=.value f) (h:lE X o.dst ρ c bx k=some r):Good P X.T fr F w bx θ o a k r:=by
 obtain ⟨dst,op,type,pos,after,guard⟩:=o
 obtain ⟨callee,args,argTypes⟩:=c
 simp only at hop hc
 subst hc
 subst hop
 replace h:(match bX ρ f with
  |.fn g caps=>(do let fs←opt (X.Φ g dst);y0 X.T (Ld X fs) fs (mO dst) (app (oB X.T argTypes.toList (jh ρ args.toList)) caps):M Eff)
  |_=>M.fail) bx k=some r:=h
 have hf:=ho f
 generalize bX ρ f=cz at h hf
 cases cz with
 |fn g caps=>
  replace h:(do let fs←opt (X.Φ g dst);y0 X.T (Ld X fs) fs (mO dst) (app (oB X.T argTypes.toList (jh ρ args.toList)) caps):M Eff) bx k=some r:=h
  replace h:=kO h;obtain ⟨fs,hfs,hk⟩:=h
  have hok:=hX.Φ _ _ _ hfs
  rw[fP] at hk
  generalize hv:a.eval f=v at hf
  cases hf with
  |fn _ l us hl hr=>
   obtain ⟨h1,h2⟩:=A8 argTypes.toList (rD ho args.toList)
   have e1:(args.map a.eval++us.toArray).toList=args.toList.map a.eval++us:=by simp
   obtain ⟨e,rd,g1,g2⟩:=Iu hok hw (args:=args.map a.eval++us.toArray) (vs:=oB X.T argTypes.toList (jh ρ args.toList)++caps) (by rw[e1,MP,MP,h1,hl])
    (fun i x v a1 a2=>by
     rw[e1] at a2
     rw[List.getElem?_append] at a1 a2
     rw[h1] at a2
     split at a1
     ·rename_i hi;rw[if_pos hi] at a2;exact h2 i x v a1 a2
     ·rename_i hi;rw[if_neg hi] at a2;exact hr _ x v a1 a2) hk
   refine ⟨e,_,g1,OpR.enter (f:=g) (args:=args.map a.eval++us.toArray) (w':=w) ?_ g2⟩
   obtain ⟨fn,cc,q1,q2,q3⟩:=hok.fn
   simp only[Ns,ne_eq] at q3
   simp[execOp,resolve,hv,Deferred.ofValue,invoke,callFunc,q1,q2,q3]
 |_=>exact (fN (bx:=bx) (k:=k) h).elim
theorem Dt (hX:Env P X) (hw:WR X.T fr F w bx θ) {ρ:cu} {a:Act} (ho:∀x,aj X.T F w bx θ (bX ρ x) (a.eval x)) {o:Oper} {k:Eff->List Nat->R} {r:Out}
  (h:evalOp X o.dst ρ o.op bx k=some r):Good P X.T fr F w bx θ o a k r:=
 Gp hX hw ho (fun c f h1 h2 h3=>Iy hX hw ho h1 h2 h3) h
def Loc {α:Type} (m:M α):Prop:=∀(bx:Bxs) (k:α->List Nat->R) (r:Out),m bx k=some r->∃a rd,k a rd=some r/\∀bx':Bxs,(∀b,b∈rd->bx' b=bx b)->∀k',m bx' k'=k' a rd
theorem Loc.ret {α:Type} (a:α):Loc (M.ret a):=fun bx k r h=>⟨a,[],h,fun _ _ _=>rfl⟩
theorem Loc.pure {α:Type} (a:α):Loc (pure a:M α):=Loc.ret a
theorem Loc.fail {α:Type}:Loc (M.fail:M α):=fun bx k r h=>(aC h).elim
theorem Loc.opt {α:Type} (o:Option α):Loc (opt o):=fun bx k r h=>by
 obtain ⟨a,rfl,hk⟩:=xO h
 exact ⟨a,[],hk,fun _ _ _=>rfl⟩
theorem Loc.chk (p:Bool):Loc (chk p):=fun bx k r h=>by
 obtain ⟨rfl,hk⟩:=FX h
 exact ⟨(),[],hk,fun _ _ _=>rfl⟩
theorem Loc.bd (p:Bool):Loc (bd p):=fun bx k r h=>by
 obtain ⟨rfl,hk⟩:=D3 h
 exact ⟨(),[],hk,fun _ _ _=>rfl⟩
theorem Loc.bR (b:Nat):Loc (bR b):=fun bx k r h=>by
 obtain ⟨x,hx,hk⟩:=AF h
 exact ⟨x,[b],hk,fun bx' hb k'=>by unfold Ev.bR;rw[hb b (Mz ..),hx]⟩
theorem Loc.dq (b:Nat):Loc (dq b):=fun bx k r h=>
 ⟨_,[b],h,fun bx' hb k'=>by unfold Ev.dq;rw[hb b (Mz ..)]⟩
theorem Loc.bind {α β:Type} {m:M α} {f:α->M β} (h:Loc m) (hf:∀a,Loc (f a)):Loc (m>>= f):=fun bx k r hk=>by
 rw[bnd] at hk
 obtain ⟨a,rd,h1,h2⟩:=h bx _ r hk
 obtain ⟨b,rd',h3,h4⟩:=hf a bx _ r h1
 refine ⟨b,app rd rd',h3,fun bx' hb k'=>?_⟩
 rw[fP] at hb
 rw[bnd,h2 bx' (fun b hb'=>hb b (List.mem_append_left _ hb')),h4 bx' fun b hb'=>hb b (List.mem_append_right _ hb')]
theorem Loc.rv (v:V):Loc (rv v):=Loc.ret _
theorem Loc.cond {α:Type} {p:Bool} {m m':M α} (h:Loc m) (h':Loc m'):Loc (fun bx k=>cond p (m bx k) (m' bx k)):=by
 cases p<;>assumption
theorem cT:∀l:List V,Loc (xf l)
 |[]=>Loc.ret _
 |x::l=>by
  cases x with
  |ow b ver=>
   refine Loc.bind (Loc.bR _) fun y=>?_
   split
   ·exact Loc.bind (Loc.bd _) fun _=>Loc.bind (cT l) fun _=>Loc.ret _
   ·exact Loc.fail
  |_=>exact cT l
theorem cD:∀l:List V,Loc (qI l)
 |[]=>Loc.ret _
 |x::l=>by
  cases x with
  |ow b ver=>
   refine Loc.bind (Loc.bR _) fun y=>?_
   split
   ·exact Loc.bind (cD l) fun _=>Loc.ret _
   ·exact Loc.fail
  |c t x=>exact Loc.bind (cD l) fun _=>Loc.ret _
  |nl=>exact cD l
  |np=>exact cD l
  |_=>exact Loc.ret _
theorem Loc.sif {α:Type} {p:Bool} {m m':M α} (h:Loc m) (h':Loc m'):Loc (Ev.sif p m m'):=by
 cases p<;>assumption
theorem Bq (T:Tys) (v:V):Loc (Bf T v):=by
 unfold Bf
 split
 ·exact Loc.bind (Loc.opt _) fun _=>Loc.bind (Loc.chk _) fun _=>Loc.ret _
 ·exact Loc.ret _
theorem Ap (T:Tys) (s:TypeId) (f:Nat) (x:V):Loc (mZ T s f x):=by unfold mZ;repeat (first|exact cT _|exact cD _|exact Loc.rv _|exact Loc.ret _|exact Loc.fail|exact Loc.opt _|exact Loc.chk _|exact Loc.bd _|exact Loc.bR _|exact Loc.dq _|exact Loc.pure _|refine Loc.bind ?_ (fun _=>?_)|refine Loc.sif ?_ ?_|split)
theorem Ec (T:Tys) (t:TypeId) (x:V):Loc (AY T t x):=by unfold AY;repeat (first|exact cT _|exact cD _|exact Loc.rv _|exact Loc.ret _|exact Loc.fail|exact Loc.opt _|exact Loc.chk _|exact Loc.bd _|exact Loc.bR _|exact Loc.dq _|exact Loc.pure _|refine Loc.bind ?_ (fun _=>?_)|refine Loc.sif ?_ ?_|split)
theorem Fa (T:Tys) (t:TypeId) (x:V):Loc (zX T t x):=by unfold zX;repeat (first|exact cT _|exact cD _|exact Loc.rv _|exact Loc.ret _|exact Loc.fail|exact Loc.opt _|exact Loc.chk _|exact Loc.bd _|exact Loc.bR _|exact Loc.dq _|exact Loc.pure _|refine Loc.bind ?_ (fun _=>?_)|refine Loc.sif ?_ ?_|split)
theorem KU (T:Tys) (t:TypeId) (x:V):Loc (ldV T t x):=by
 unfold ldV
 split
 ·refine Loc.bind (Loc.bR _) fun y=>?_
  split
  ·exact Loc.sif (Fa _ _ _) (Ec _ _ _)
  ·exact Loc.fail
 ·exact Ec _ _ _
theorem AL (T:Tys) (t:TypeId) (x y:V):Loc (pX T t x y):=by unfold pX;repeat (first|exact cT _|exact cD _|exact Loc.rv _|exact Loc.ret _|exact Loc.fail|exact Loc.opt _|exact Loc.chk _|exact Loc.bd _|exact Loc.bR _|exact Loc.dq _|exact Loc.pure _|refine Loc.bind ?_ (fun _=>?_)|refine Loc.sif ?_ ?_|split)
theorem J0 (T:Tys) (t:TypeId) (x y:V):Loc (IM T t x y):=by
 unfold IM
 split
 ·refine Loc.bind (Loc.bR _) fun y=>?_
  split
  ·refine Loc.sif ?_ (AL _ _ _ _)
   unfold xT
   repeat (first|exact cT _|exact cD _|exact Loc.rv _|exact Loc.ret _|exact Loc.fail|exact Loc.opt _|exact Loc.chk _|exact Loc.bd _|exact Loc.bR _|exact Loc.dq _|exact Loc.pure _|refine Loc.bind ?_ (fun _=>?_)|refine Loc.sif ?_ ?_|split)
  ·exact Loc.fail
 ·exact AL _ _ _ _
theorem Ai (T:Tys) (t:TypeId) (x i:V):Loc (nG T t x i):=by unfold nG;repeat (first|exact cT _|exact cD _|exact Loc.rv _|exact Loc.ret _|exact Loc.fail|exact Loc.opt _|exact Loc.chk _|exact Loc.bd _|exact Loc.bR _|exact Loc.dq _|exact Loc.pure _|refine Loc.bind ?_ (fun _=>?_)|refine Loc.sif ?_ ?_|split)
theorem Hg (T:Tys) (t:TypeId) (x i:V):Loc (yb T t x i):=by unfold yb;repeat (first|exact cT _|exact cD _|exact Loc.rv _|exact Loc.ret _|exact Loc.fail|exact Loc.opt _|exact Loc.chk _|exact Loc.bd _|exact Loc.bR _|exact Loc.dq _|exact Loc.pure _|refine Loc.bind ?_ (fun _=>?_)|refine Loc.sif ?_ ?_|split)
theorem qY (e:TypeId) (x:V):Loc (jr e x):=by unfold jr;repeat (first|exact cT _|exact cD _|exact Loc.rv _|exact Loc.ret _|exact Loc.fail|exact Loc.opt _|exact Loc.chk _|exact Loc.bd _|exact Loc.bR _|exact Loc.dq _|exact Loc.pure _|refine Loc.bind ?_ (fun _=>?_)|refine Loc.sif ?_ ?_|split)
theorem J1 (T:Tys) (t:TypeId) (x:V):Loc (E6 T t x):=by unfold E6;repeat (first|exact cT _|exact cD _|exact Loc.rv _|exact Loc.ret _|exact Loc.fail|exact Loc.opt _|exact Loc.chk _|exact Loc.bd _|exact Loc.bR _|exact Loc.dq _|exact Loc.pure _|refine Loc.bind ?_ (fun _=>?_)|refine Loc.sif ?_ ?_|split)
theorem GR (T:Tys) (t:TypeId) (x:V) (lo hi:Option V):Loc (tP T t x lo hi):=by unfold tP;repeat (first|exact cT _|exact cD _|exact Loc.rv _|exact Loc.ret _|exact Loc.fail|exact Loc.opt _|exact Loc.chk _|exact Loc.bd _|exact Loc.bR _|exact Loc.dq _|exact Loc.pure _|refine Loc.bind ?_ (fun _=>?_)|refine Loc.sif ?_ ?_|split)
theorem BT (T:Tys) (x:V):Loc (oU T x):=by unfold oU;repeat (first|exact cT _|exact cD _|exact Loc.rv _|exact Loc.ret _|exact Loc.fail|exact Loc.opt _|exact Loc.chk _|exact Loc.bd _|exact Loc.bR _|exact Loc.dq _|exact Loc.pure _|refine Loc.bind ?_ (fun _=>?_)|refine Loc.sif ?_ ?_|split)
theorem Hl (T:Tys) (t:TypeId) (ρ:cu) (ps:List (Nat×Operand)):Loc (wD T t ρ ps):=by unfold wD;repeat (first|exact cT _|exact cD _|exact Loc.rv _|exact Loc.ret _|exact Loc.fail|exact Loc.opt _|exact Loc.chk _|exact Loc.bd _|exact Loc.bR _|exact Loc.dq _|exact Loc.pure _|refine Loc.bind ?_ (fun _=>?_)|refine Loc.sif ?_ ?_|split)
theorem zN (T:Tys) (t:TypeId) (n d:Nat) (ρ:cu) (ps:List (Nat×Operand)):Loc (j6 T t n d ρ ps):=by unfold j6;repeat (first|exact cT _|exact cD _|exact Loc.rv _|exact Loc.ret _|exact Loc.fail|exact Loc.opt _|exact Loc.chk _|exact Loc.bd _|exact Loc.bR _|exact Loc.dq _|exact Loc.pure _|refine Loc.bind ?_ (fun _=>?_)|refine Loc.sif ?_ ?_|split)
theorem Hs (T:Tys) (t:TypeId) (d:Nat) (x y:V):Loc (nA T t d x y):=by unfold nA;repeat (first|exact cT _|exact cD _|exact Loc.rv _|exact Loc.ret _|exact Loc.fail|exact Loc.opt _|exact Loc.chk _|exact Loc.bd _|exact Loc.bR _|exact Loc.dq _|exact Loc.pure _|refine Loc.bind ?_ (fun _=>?_)|refine Loc.sif ?_ ?_|split)
theorem GU (T:Tys) (s:TypeId) (f:Nat) (x:V):Loc (yc T s f x):=by unfold yc;repeat (first|exact cT _|exact cD _|exact Loc.rv _|exact Loc.ret _|exact Loc.fail|exact Loc.opt _|exact Loc.chk _|exact Loc.bd _|exact Loc.bR _|exact Loc.dq _|exact Loc.pure _|refine Loc.bind ?_ (fun _=>?_)|refine Loc.sif ?_ ?_|split)
theorem Ja (X:Cx) (x:V):Loc (mvK X x):=by unfold mvK;repeat (first|exact cT _|exact cD _|exact Loc.rv _|exact Loc.ret _|exact Loc.fail|exact Loc.opt _|exact Loc.chk _|exact Loc.bd _|exact Loc.bR _|exact Loc.dq _|exact Loc.pure _|refine Loc.bind ?_ (fun _=>?_)|refine Loc.sif ?_ ?_|split)
theorem EI (X:Cx) (t:TypeId) (d:Nat) (s x:V):Loc (uS X t d s x):=by
 unfold uS
 refine Loc.bind (Loc.opt _) fun _=>Loc.bind (Loc.opt _) fun _=>Loc.bind (Loc.bd _) fun _=>Loc.bind (qY _ _) fun _=>Loc.bind (Ja _ _) fun _=>?_
 repeat (first|exact cT _|exact cD _|exact Loc.rv _|exact Loc.ret _|exact Loc.fail|exact Loc.opt _|exact Loc.chk _|exact Loc.bd _|exact Loc.bR _|exact Loc.dq _|exact Loc.pure _|refine Loc.bind ?_ (fun _=>?_)|refine Loc.sif ?_ ?_|split)
theorem Jz (X:Cx) (t:TypeId) (d:Nat) (s x:V):Loc (EL X t d s x):=by
 unfold EL
 split
 ·unfold xI
  refine Loc.bind (Loc.opt _) fun _=>Loc.bind (Loc.opt _) fun _=>Loc.bind (Loc.bd _) fun _=>Loc.bind (qY _ _) fun _=>?_
  repeat (first|exact cT _|exact cD _|exact Loc.rv _|exact Loc.ret _|exact Loc.fail|exact Loc.opt _|exact Loc.chk _|exact Loc.bd _|exact Loc.bR _|exact Loc.dq _|exact Loc.pure _|refine Loc.bind ?_ (fun _=>?_)|refine Loc.sif ?_ ?_|split)
 ·exact EI _ _ _ _ _
theorem Ds (T:Tys) (s d:TypeId) (x:V):Loc (rI T s d x):=by unfold rI;repeat (first|exact cT _|exact cD _|exact Loc.rv _|exact Loc.ret _|exact Loc.fail|exact Loc.opt _|exact Loc.chk _|exact Loc.bd _|exact Loc.bR _|exact Loc.dq _|exact Loc.pure _|refine Loc.bind ?_ (fun _=>?_)|refine Loc.sif ?_ ?_|split)
theorem Hr (T:Tys) (s d:TypeId) (x:V):Loc (FG T s d x):=Loc.sif (Loc.bind (Loc.opt _) fun _=>Loc.bind (Loc.opt _) fun _=>Loc.bind (Loc.bd _) fun _=>Loc.bind (qY _ _) fun _=>Loc.rv _) (Ds _ _ _ _)
theorem Ff (mx:Bool):∀(l:List V) (v:V),Loc (mmV mx v l)
 |[],v=>by
  have:mmV mx v []=rv v:=by cases v<;>rfl
  rw[this];exact Loc.rv _
 |y::r,v=>by
  have other:(mmV mx v (y::r)=M.fail)∨∃k x k' x',v=.c (.int k) x/\y=.c (.int k') x':=by
   cases v with
   |c t x=>cases t with
    |int k=>cases y with
     |c t' x'=>cases t' with
      |int k'=>exact .inr ⟨k,x,k',x',rfl,rfl⟩
      |_=>exact .inl rfl
     |_=>exact .inl rfl
    |_=>exact .inl (by cases y<;>first|rfl|(rename_i t2 c2;cases t2<;>rfl))
   |_=>exact .inl (by cases y<;>first|rfl|(rename_i t2 c2;cases t2<;>rfl))
  rcases other with h|⟨k,x,k',x',rfl,rfl⟩
  ·rw[h];exact Loc.fail
  ·exact Loc.bind (Loc.bd _) fun _=>Ff mx r _
theorem JR (T:Tys) (op:BinOp) (t:TypeId) (x y:V):Loc (Gw T op t x y):=by unfold Gw;repeat (first|exact cT _|exact cD _|exact Loc.rv _|exact Loc.ret _|exact Loc.fail|exact Loc.opt _|exact Loc.chk _|exact Loc.bd _|exact Loc.bR _|exact Loc.dq _|exact Loc.pure _|refine Loc.bind ?_ (fun _=>?_)|refine Loc.sif ?_ ?_|split)
theorem H0 (x:C) (a b:V):Loc (Dm x a b):=by
 unfold Dm
 cases asC a with
 |none=>exact Loc.cond (Loc.rv _) (Loc.rv _)
 |some p=>cases asC b with
  |none=>exact Loc.cond (Loc.rv _) (Loc.rv _)
  |some q=>exact Loc.bind (Loc.bd _) fun _=>Loc.rv _
end
end Go.Ev
namespace Go.Ev
section
variable {T:Tys} {bx bx':Bxs}
structure Ag (bx bx':Bxs) (e:Ex):Prop where
 r:∀n b,e.r.find n=some (some b)->bx' b=bx b
 fz:∀b,b∈e.fz->bx' b=bx b
theorem Ag.le {e e':Ex} (h:e.le e') (a:Ag bx bx' e'):Ag bx bx' e:=⟨fun n b hf=>a.r n b (h.r _ _ hf),fun b hb=>a.fz b (h.fz b hb)⟩
theorem kZ {b ver:Nat} (h:bx' b=bx b):du bx' b ver=du bx b ver:=by unfold du;rw[h]
theorem Gn {t:CT} {v:V} {c:C} {f:List Nat} (h:yi bx t v=some (c,f)) (ha:∀b,b∈f->bx' b=bx b):yi bx' t v=some (c,f):=by
 cases v with
 |ow b ver=>
  cases t with
  |sl t=>
   replace h:(match du bx b ver with|some (t',es)=>sif (Nat.beq t t') (some (C.l es,[b])) none|none=>none)=some (c,f):=h
   have hf:f=[b]:=by
    split at h
    ·rename_i t' es hl
     cases ht:Nat.beq t t' with
     |false=>rw[ht,aX] at h;simp at h
     |true=>rw[ht,ai] at h;simp at h;exact h.2.symm
    ·simp at h
   subst hf
   show (match du bx' b ver with|some (t',es)=>sif (Nat.beq t t') (some (C.l es,[b])) none|none=>none)=_
   rw[kZ (ha b (by simp))]
   exact h
  |_=>exact absurd (show (none:Option (C×List Nat))=some (c,f) from h) (by simp)
 |_=>cases t<;>exact h
theorem y4:∀ {cts:List CT} {cells:List V} {cs:List C} {f:List Nat},j9 bx cts cells=some (cs,f)->(∀b,b∈f->bx' b=bx b)->j9 bx' cts cells=some (cs,f)
 |[],[],cs,f,h,_=>h
 |[],_::_,cs,f,h,_=>h
 |_::_,[],cs,f,h,_=>h
 |t::ts,v::vs,cs,f,h,ha=>by
  replace h:(match yi bx t v with
   |some (x,f)=>match j9 bx ts vs with
    |some (xs,g)=>some (x::xs,app f g)
    |none=>none
   |none=>none)=some (cs,f):=h
  split at h
  ·rename_i x f1 h1
   split at h
   ·rename_i xs g h2
    simp only[Mj,MG] at h
    obtain ⟨rfl,rfl⟩:=h
    rw[fP] at ha
    have e1:=Gn h1 fun b hb=>ha b (List.mem_append_left _ hb)
    have e2:=y4 h2 fun b hb=>ha b (List.mem_append_right _ hb)
    show (match yi bx' t v with
     |some (x,f)=>match j9 bx' ts vs with
      |some (xs,g)=>some (x::xs,app f g)
      |none=>none
     |none=>none)=_
    rw[e1]
    show (match j9 bx' ts vs with
      |some (xs,g)=>some (x::xs,app f1 g)
      |none=>none)=_
    rw[e2]
   ·simp at h
  ·simp at h
mutual
theorem FQ:∀(k:Sk) (v:V) (e e':Ex),k.ext T bx v e=some e'->e.le e'/\∀bx':Bxs,Ag bx bx' e'->k.ext T bx' v e=some e'
 |.un,v,e,e',h=>by
  replace h:some e=some e':=by cases v<;>exact h
  simp only[Mj] at h
  subst h
  exact ⟨Ex.le_refl _,fun _ _=>by cases v<;>rfl⟩
 |.d t,v,e,e',h=>by
  have nope:∀ {P:Prop},(none:Option Ex)=some e'->P:=fun h=>absurd h (by simp)
  cases v with
  |c t' x=>
   replace h:sif (jg t t') (some ⟨x::e.xs,e.r,e.fz⟩) none=some e':=by cases t<;>exact h
   refine ⟨?_,fun bx' _=>by cases t<;>exact h⟩
   cases hc:jg t t' with
   |false=>simp[hc,sif] at h
   |true=>
    simp[hc,sif] at h
    subst h;exact e.push _
  |nl=>cases t with
   |sl t=>
    refine ⟨?_,fun bx' _=>h⟩
    replace h:some (⟨.l []::e.xs,e.r,e.fz⟩:Ex)=some e':=h
    simp only[Mj] at h
    subst h;exact e.push _
   |_=>exact nope h
  |np=>cases t with
   |pt t=>
    refine ⟨?_,fun bx' _=>h⟩
    replace h:some (⟨.nil::e.xs,e.r,e.fz⟩:Ex)=some e':=h
    simp only[Mj] at h
    subst h;exact e.push _
   |_=>exact nope h
  |vw b ver lo hi=>cases t with
   |sl t=>
    replace h:(match du bx b ver with
     |some (t',es)=>sif (Nat.beq t t') (some (⟨.l ((es.take hi.toNat).drop lo.toNat)::e.xs,e.r,b::e.fz⟩:Ex)) none
     |none=>none)=some e':=h
    have hle:∃x,e'=⟨x::e.xs,e.r,b::e.fz⟩:=by
     split at h
     ·rename_i t' es hl
      cases ht:Nat.beq t t' with
      |false=>simp[ht,sif] at h
      |true=>simp[ht,sif] at h;exact ⟨_,h.symm⟩
     ·simp at h
    obtain ⟨x,rfl⟩:=hle
    refine ⟨e.AS _ _,fun bx' ha=>?_⟩
    show (match du bx' b ver with
     |some (t',es)=>sif (Nat.beq t t') (some (⟨.l ((es.take hi.toNat).drop lo.toNat)::e.xs,e.r,b::e.fz⟩:Ex)) none
     |none=>none)=_
    rw[kZ (ha.fz b (Mz ..))]
    exact h
   |_=>exact nope h
  |pt b ver off=>cases t with
   |pt t=>cases off with
    |succ off=>exact nope h
    |zero=>
     replace h:(match bx b with
      |some (.var v t' cells)=>sif (az (Nat.beq t t') (Nat.beq v ver)) (match bj T t with
       |some td=>match j9 bx td.cts cells with
        |some (cs,f)=>some (⟨.p cs::e.xs,e.r,b::app f e.fz⟩:Ex)
        |none=>none
       |none=>none) none
      |_=>none)=some e':=h
     have key:∃v t' cells td cs f,bx b=some (.var v t' cells)/\az (Nat.beq t t') (Nat.beq v ver)=true/\bj T t=some td/\j9 bx td.cts cells=some (cs,f)/\e'=⟨.p cs::e.xs,e.r,b::app f e.fz⟩:=by
      split at h
      ·rename_i v t' cells hb
       cases hq:az (Nat.beq t t') (Nat.beq v ver) with
       |false=>rw[hq,aX] at h;simp at h
       |true=>
        rw[hq,ai] at h
        split at h
        ·rename_i td htd
         split at h
         ·rename_i cs f hcs
          simp only[Mj] at h
          exact ⟨v,t',cells,td,cs,f,hb,hq,htd,hcs,h.symm⟩
         ·simp at h
        ·simp at h
      ·simp at h
     obtain ⟨v,t',cells,td,cs,f,q1,q2,q3,q4,rfl⟩:=key
     refine ⟨e.Ko _ _ _,fun bx' ha=>?_⟩
     have hb':bx' b=some (.var v t' cells):=by rw[ha.fz b (Mz ..)];exact q1
     have hl':j9 bx' td.cts cells=some (cs,f):=y4 q4 fun c hc=>ha.fz c (MF _ (by rw[fP];exact List.mem_append_left _ hc))
     show (match bx' b with
      |some (.var v t' cells)=>sif (az (Nat.beq t t') (Nat.beq v ver)) (match bj T t with
       |some td=>match j9 bx' td.cts cells with
        |some (cs,f)=>some (⟨.p cs::e.xs,e.r,b::app f e.fz⟩:Ex)
        |none=>none
       |none=>none) none
      |_=>none)=_
     rw[hb']
     show sif (az (Nat.beq t t') (Nat.beq v ver)) (match bj T t with
       |some td=>match j9 bx' td.cts cells with
        |some (cs,f)=>some (⟨.p cs::e.xs,e.r,b::app f e.fz⟩:Ex)
        |none=>none
       |none=>none) none=_
     rw[q2,ai,q3]
     show (match j9 bx' td.cts cells with
        |some (cs,f)=>some (⟨.p cs::e.xs,e.r,b::app f e.fz⟩:Ex)
        |none=>none)=_
     rw[hl']
   |_=>cases off<;>exact nope h
  |pe b ver ix off nb=>cases t with
   |pt t=>cases off with
    |succ off=>exact nope h
    |zero=>
     replace h:(match du bx b ver with
      |some (t',es)=>sif (Nat.beq t t') (some (⟨sif nb (cond (decide (0<=ix)) (.p (es.getD ix.toNat [])) .nil) (.p (es.getD ix.toNat []))::e.xs,e.r,b::e.fz⟩:Ex)) none
      |none=>none)=some e':=h
     have hle:∃x,e'=⟨x::e.xs,e.r,b::e.fz⟩:=by
      split at h
      ·rename_i t' es hl
       cases ht:Nat.beq t t' with
       |false=>rw[ht,aX] at h;simp at h
       |true=>
        rw[ht,ai] at h
        simp only[Mj] at h
        exact ⟨_,h.symm⟩
      ·simp at h
     obtain ⟨x,rfl⟩:=hle
     refine ⟨e.AS _ _,fun bx' ha=>?_⟩
     show (match du bx' b ver with
      |some (t',es)=>sif (Nat.beq t t') (some (⟨sif nb (cond (decide (0<=ix)) (.p (es.getD ix.toNat [])) .nil) (.p (es.getD ix.toNat []))::e.xs,e.r,b::e.fz⟩:Ex)) none
      |none=>none)=_
     rw[kZ (ha.fz b (Mz ..))]
     exact h
   |_=>cases off<;>exact nope h
  |fa cts cs off=>cases t with
   |pt t=>cases off with
    |succ off=>exact nope h
    |zero=>
     refine ⟨?_,fun bx' _=>h⟩
     replace h:(match bj T t with
      |some d=>sif (qn cts d.cts) (some (⟨.p cs::e.xs,e.r,e.fz⟩:Ex)) none
      |none=>none)=some e':=h
     split at h
     ·rename_i d hd
      cases hq:qn cts d.cts with
      |false=>simp[hq,sif] at h
      |true=>
       rw[hq,ai] at h
       simp only[Mj] at h
       subst h;exact e.push _
     ·simp at h
   |_=>cases off<;>exact nope h
  |ow b ver=>cases t with
   |sl t=>
    replace h:(match du bx b ver with
     |some (t',es)=>sif (Nat.beq t t') (some (⟨.l es::e.xs,e.r,b::e.fz⟩:Ex)) none
     |none=>none)=some e':=h
    have hle:∃x,e'=⟨x::e.xs,e.r,b::e.fz⟩:=by
     split at h
     ·rename_i t' es hl
      cases ht:Nat.beq t t' with
      |false=>simp[ht,sif] at h
      |true=>simp[ht,sif] at h;exact ⟨_,h.symm⟩
     ·simp at h
    obtain ⟨x,rfl⟩:=hle
    refine ⟨e.AS _ _,fun bx' ha=>?_⟩
    show (match du bx' b ver with
     |some (t',es)=>sif (Nat.beq t t') (some (⟨.l es::e.xs,e.r,b::e.fz⟩:Ex)) none
     |none=>none)=_
    rw[kZ (ha.fz b (Mz ..))]
    exact h
   |_=>exact nope h
  |_=>cases t<;>exact nope h
 |.ow n,v,e,e',h=>by
  have nope:∀ {P:Prop},(none:Option Ex)=some e'->P:=fun h=>absurd h (by simp)
  cases v with
  |ow b ver=>
   replace h:(match du bx b ver with
    |some _=>e.put n (some b)
    |none=>none)=some e':=h
   have h2:e.put n (some b)=some e':=by
    split at h
    ·exact h
    ·simp at h
   obtain ⟨p1,p2,p3,p4⟩:=oi h2
   refine ⟨p1,fun bx' ha=>?_⟩
   show (match du bx' b ver with
    |some _=>e.put n (some b)
    |none=>none)=some e'
   rw[kZ (ha.r n b p2)]
   exact h
  |nl=>
   replace h:e.put n none=some e':=h
   exact ⟨(oi h).1,fun bx' _=>h⟩
  |_=>exact nope h
 |.mp n,v,e,e',h=>by
  have nope:∀ {P:Prop},(none:Option Ex)=some e'->P:=fun h=>absurd h (by simp)
  cases v with
  |mp b ver=>
   replace h:(match bx b with
    |some (.mp v _ _)=>sif (Nat.beq v ver) (e.put n (some b)) none
    |_=>none)=some e':=h
   have h2:e.put n (some b)=some e':=by
    split at h
    ·rename_i v' t' es' _
     cases hc:Nat.beq v' ver with
     |false=>simp[hc,sif] at h
     |true=>rw[hc,ai] at h;exact h
    ·simp at h
   obtain ⟨p1,p2,p3,p4⟩:=oi h2
   refine ⟨p1,fun bx' ha=>?_⟩
   show (match bx' b with
    |some (.mp v _ _)=>sif (Nat.beq v ver) (e.put n (some b)) none
    |_=>none)=some e'
   rw[ha.r n b p2]
   exact h
  |_=>exact nope h
 |.pt n o,v,e,e',h=>by
  have nope:∀ {P:Prop},(none:Option Ex)=some e'->P:=fun h=>absurd h (by simp)
  cases v with
  |pt b ver o'=>
   replace h:(match bx b with
    |some (.var v _ _)=>sif (az (Nat.beq o o') (Nat.beq v ver)) (e.put n (some b)) none
    |_=>none)=some e':=h
   have h2:e.put n (some b)=some e':=by
    split at h
    ·rename_i v' t' cells' _
     cases hc:az (Nat.beq o o') (Nat.beq v' ver) with
     |false=>simp[hc,sif] at h
     |true=>rw[hc,ai] at h;exact h
    ·simp at h
   obtain ⟨p1,p2,p3,p4⟩:=oi h2
   refine ⟨p1,fun bx' ha=>?_⟩
   show (match bx' b with
    |some (.var v _ _)=>sif (az (Nat.beq o o') (Nat.beq v ver)) (e.put n (some b)) none
    |_=>none)=some e'
   rw[ha.r n b p2]
   exact h
  |_=>exact nope h
 |.pe n o,v,e,e',h=>by
  have nope:∀ {P:Prop},(none:Option Ex)=some e'->P:=fun h=>absurd h (by simp)
  cases v with
  |pe b ver ix o' nb=>
   replace h:(match du bx b ver with
    |some _=>sif (Nat.beq o o') (Ex.put ⟨.i ix::e.xs,e.r,e.fz⟩ n (some b)) none
    |none=>none)=some e':=h
   have h2:Ex.put ⟨.i ix::e.xs,e.r,e.fz⟩ n (some b)=some e':=by
    split at h
    ·cases hc:Nat.beq o o' with
     |false=>simp[hc,sif] at h
     |true=>rw[hc,ai] at h;exact h
    ·simp at h
   obtain ⟨p1,p2,p3,p4⟩:=oi h2
   refine ⟨(e.push _).le_trans p1,fun bx' ha=>?_⟩
   show (match du bx' b ver with
    |some _=>sif (Nat.beq o o') (Ex.put ⟨.i ix::e.xs,e.r,e.fz⟩ n (some b)) none
    |none=>none)=some e'
   rw[kZ (ha.r n b p2)]
   exact h
  |np=>
   replace h:(match e.r.find n with
    |some (some b)=>match bx b with
     |some (.arr _ _ _ _)=>some (⟨.i (-1)::e.xs,e.r,e.fz⟩:Ex)
     |_=>none
    |_=>none)=some e':=h
   cases hfd:e.r.find n with
   |none=>simp[hfd] at h
   |some ob=>cases ob with
    |none=>simp[hfd] at h
    |some b=>
     rw[hfd] at h
     have h2:some (⟨.i (-1)::e.xs,e.r,e.fz⟩:Ex)=some e':=by
      replace h:(match bx b with
       |some (.arr _ _ _ _)=>some (⟨.i (-1)::e.xs,e.r,e.fz⟩:Ex)
       |_=>none)=some e':=h
      split at h
      ·exact h
      ·simp at h
     have h3:=Mh h2
     subst h3
     refine ⟨e.push _,fun bx' ha=>?_⟩
     show (match e.r.find n with
      |some (some b)=>match bx' b with
       |some (.arr _ _ _ _)=>some (⟨.i (-1)::e.xs,e.r,e.fz⟩:Ex)
       |_=>none
      |_=>none)=some _
     rw[hfd]
     show (match bx' b with
       |some (.arr _ _ _ _)=>some (⟨.i (-1)::e.xs,e.r,e.fz⟩:Ex)
       |_=>none)=some _
     rw[ha.r n b hfd]
     exact h
  |_=>exact nope h
 |.st ts,v,e,e',h=>by
  cases v with
  |ag vs o=>
   cases o with
   |some x=>
    replace h:sif (ll ts vs) (some (⟨x::e.xs,e.r,e.fz⟩:Ex)) none=some e':=h
    cases hc:ll ts vs with
    |false=>simp[hc,sif] at h
    |true=>
     have h':=h
     rw[hc,ai] at h
     simp only[Mj] at h
     subst h
     exact ⟨e.push _,fun bx' ha=>h'⟩
   |none=>
    replace h:(match j9 bx ts vs with
     |some (cs,f)=>some (⟨.p cs::e.xs,e.r,app f e.fz⟩:Ex)
     |none=>none)=some e':=h
    split at h
    ·rename_i cs f hcs
     simp only[Mj] at h
     subst h
     refine ⟨e.IS _ _,fun bx' ha=>?_⟩
     have hl':j9 bx' ts vs=some (cs,f):=y4 hcs fun c hc=>ha.fz c (by rw[fP];exact List.mem_append_left _ hc)
     show (match j9 bx' ts vs with
      |some (cs,f)=>some (⟨.p cs::e.xs,e.r,app f e.fz⟩:Ex)
      |none=>none)=_
     rw[hl']
    ·simp at h
  |_=>exact absurd (show (none:Option Ex)=some e' from h) (by simp)
 |.ag q,v,e,e',h=>by
  cases v with
  |ag vs _=>exact qJ q vs e e' h
  |_=>exact absurd (show (none:Option Ex)=some e' from h) (by simp)
 |.tu q,v,e,e',h=>by
  cases v with
  |tu vs=>exact qJ q vs e e' h
  |_=>exact absurd (show (none:Option Ex)=some e' from h) (by simp)
 |.fn f q,v,e,e',h=>by
  cases v with
  |fn f' vs=>
   replace h:sif (Nat.beq f f') (Sk.exts T bx q vs e) none=some e':=h
   cases hc:Nat.beq f f' with
   |false=>simp[hc,sif] at h
   |true=>
    rw[hc,ai] at h
    obtain ⟨h1,h2⟩:=qJ q vs e e' h
    refine ⟨h1,fun bx' ha=>?_⟩
    show sif (Nat.beq f f') (Sk.exts T bx' q vs e) none=some e'
    rw[hc,ai]
    exact h2 bx' ha
  |_=>exact absurd (show (none:Option Ex)=some e' from h) (by simp)
theorem qJ:∀(ks:List Sk) (vs:List V) (e e':Ex),Sk.exts T bx ks vs e=some e'->e.le e'/\∀bx':Bxs,Ag bx bx' e'->Sk.exts T bx' ks vs e=some e'
 |[],[],e,e',h=>by
  refine ⟨?_,fun bx' _=>h⟩
  replace h:some e=some e':=h
  simp only[Mj] at h
  subst h
  exact Ex.le_refl _
 |[],_::_,e,e',h=>absurd (show (none:Option Ex)=some e' from h) (by simp)
 |_::_,[],e,e',h=>absurd (show (none:Option Ex)=some e' from h) (by simp)
 |k::ks,v::vs,e,e',h=>by
  replace h:(match k.ext T bx v e with
   |some e1=>Sk.exts T bx ks vs e1
   |none=>none)=some e':=h
  split at h
  ·rename_i e1 h1
   obtain ⟨a1,a2⟩:=FQ k v e e1 h1
   obtain ⟨b1,b2⟩:=qJ ks vs e1 e' h
   refine ⟨a1.le_trans b1,fun bx' ha=>?_⟩
   show (match k.ext T bx' v e with
    |some e1=>Sk.exts T bx' ks vs e1
    |none=>none)=some e'
   rw[a2 bx' (ha.le b1)]
   exact b2 bx' ha
  ·simp at h
end
theorem A9 {ρ:cu}:∀(q:List (Nat×Sk)) (e e':Ex),rB T ⟨ρ,bx⟩ q e=some e'->e.le e'/\∀bx':Bxs,Ag bx bx' e'->rB T ⟨ρ,bx'⟩ q e=some e'
 |[],e,e',h=>by
  refine ⟨?_,fun bx' _=>h⟩
  replace h:some e=some e':=h
  simp only[Mj] at h
  subst h
  exact Ex.le_refl _
 |(d,k)::r,e,e',h=>by
  replace h:(match k.ext T bx (ρ d) e with
   |some e1=>rB T ⟨ρ,bx⟩ r e1
   |none=>none)=some e':=h
  split at h
  ·rename_i e1 h1
   obtain ⟨a1,a2⟩:=FQ k _ e e1 h1
   obtain ⟨b1,b2⟩:=A9 r e1 e' h
   refine ⟨a1.le_trans b1,fun bx' ha=>?_⟩
   show (match k.ext T bx' (ρ d) e with
    |some e1=>rB T ⟨ρ,bx'⟩ r e1
    |none=>none)=some e'
   rw[a2 bx' (ha.le b1)]
   exact b2 bx' ha
  ·simp at h
theorem oM:∀(q:List (Nat×BSk)) (e e':Ex),ic T bx q e=some e'->e.le e'/\∀bx':Bxs,Ag bx bx' e'->ic T bx' q e=some e'
 |[],e,e',h=>by
  refine ⟨?_,fun bx' _=>h⟩
  replace h:some e=some e':=h
  simp only[Mj] at h
  subst h
  exact Ex.le_refl _
 |(n,.var t cells)::r,e,e',h=>by
  replace h:(match e.r.find n with
   |some (some b)=>match bx b with
    |some (.var _ t' vs)=>match sif (Nat.beq t t') (Sk.exts T bx cells vs e) none with
     |some e'=>ic T bx r e'
     |none=>none
    |_=>none
   |_=>none)=some e':=h
  split at h
  ·rename_i b hb
   split at h
   ·rename_i v t' vs hbb
    split at h
    ·rename_i e1 h1
     cases hc:Nat.beq t t' with
     |false=>simp[hc,sif] at h1
     |true=>
      rw[hc,ai] at h1
      obtain ⟨a1,a2⟩:=qJ cells vs e e1 h1
      obtain ⟨b1,b2⟩:=oM r e1 e' h
      refine ⟨a1.le_trans b1,fun bx' ha=>?_⟩
      show (match e.r.find n with
       |some (some b)=>match bx' b with
        |some (.var _ t' vs)=>match sif (Nat.beq t t') (Sk.exts T bx' cells vs e) none with
         |some e'=>ic T bx' r e'
         |none=>none
        |_=>none
       |_=>none)=some e'
      have hbe:bx' b=bx b:=ha.r n b ((a1.le_trans b1).r _ _ hb)
      simp only[hb,hbe,hbb,hc,ai]
      rw[a2 bx' (ha.le b1)]
      exact b2 bx' ha
    ·simp at h
   ·simp at h
  ·simp at h
 |(n,.arr t m)::r,e,e',h=>by
  replace h:(match e.r.find n with
   |some (some b)=>match bx b with
    |some (.arr _ t' es m')=>sif (az (Nat.beq t t') (mok m m')) (ic T bx r ⟨.l es::e.xs,e.r,e.fz⟩) none
    |_=>none
   |some none=>ic T bx r ⟨.l []::e.xs,e.r,e.fz⟩
   |none=>none)=some e':=h
  split at h
  ·rename_i b hb
   split at h
   ·rename_i v t' es m' hbb
    cases hc:az (Nat.beq t t') (mok m m') with
    |false=>simp[hc,sif] at h
    |true=>
     rw[hc,ai] at h
     obtain ⟨b1,b2⟩:=oM r _ e' h
     refine ⟨(e.push _).le_trans b1,fun bx' ha=>?_⟩
     show (match e.r.find n with
      |some (some b)=>match bx' b with
       |some (.arr _ t' es m')=>sif (az (Nat.beq t t') (mok m m')) (ic T bx' r ⟨.l es::e.xs,e.r,e.fz⟩) none
       |_=>none
      |some none=>ic T bx' r ⟨.l []::e.xs,e.r,e.fz⟩
      |none=>none)=some e'
     have hbe:bx' b=bx b:=ha.r n b (((e.push _).le_trans b1).r _ _ hb)
     simp only[hb,hbe,hbb,hc,ai]
     exact b2 bx' ha
   ·simp at h
  ·rename_i hb
   obtain ⟨b1,b2⟩:=oM r _ e' h
   refine ⟨(e.push _).le_trans b1,fun bx' ha=>?_⟩
   show (match e.r.find n with
    |some (some b)=>match bx' b with
     |some (.arr _ t' es m')=>sif (az (Nat.beq t t') (mok m m')) (ic T bx' r ⟨.l es::e.xs,e.r,e.fz⟩) none
     |_=>none
    |some none=>ic T bx' r ⟨.l []::e.xs,e.r,e.fz⟩
    |none=>none)=some e'
   simp only[hb]
   exact b2 bx' ha
  ·simp at h
 |(n,.mp t)::r,e,e',h=>by
  replace h:(match e.r.find n with
   |some (some b)=>match bx b with
    |some (.mp _ t' es)=>sif (Nat.beq t t') (ic T bx r ⟨.l es::e.xs,e.r,e.fz⟩) none
    |_=>none
   |_=>none)=some e':=h
  split at h
  ·rename_i b hb
   split at h
   ·rename_i v t' es hbb
    cases hc:Nat.beq t t' with
    |false=>simp[hc,sif] at h
    |true=>
     rw[hc,ai] at h
     obtain ⟨b1,b2⟩:=oM r _ e' h
     refine ⟨(e.push _).le_trans b1,fun bx' ha=>?_⟩
     show (match e.r.find n with
      |some (some b)=>match bx' b with
       |some (.mp _ t' es)=>sif (Nat.beq t t') (ic T bx' r ⟨.l es::e.xs,e.r,e.fz⟩) none
       |_=>none
      |_=>none)=some e'
     have hbe:bx' b=bx b:=ha.r n b (((e.push _).le_trans b1).r _ _ hb)
     simp only[hb,hbe,hbb,hc,ai]
     exact b2 bx' ha
   ·simp at h
  ·simp at h
theorem Ez {T:Tys} {t:Tm} {r0:Ren} {ρ:cu} {e:Ex} (h:t.ext T r0 ⟨ρ,bx⟩=some e) {bx':Bxs} (ha:∀b,b∈names e.r∨b∈e.fz->bx' b=bx b):t.ext T r0 ⟨ρ,bx'⟩=some e:=by
 unfold Tm.ext at h⊢
 split at h
 ·rename_i e1 h1
  split at h
  ·rename_i e2 h2
   have hee:e2=e:=by
    cases hc:az (az (bxT T t.bx) (az (px t.bx t.sl) (iW t.bx t.bx))) (az (bM (names e2.r)) (Fh e2.r e2.fz)) with
    |false=>simp[hc,sif] at h
    |true=>rw[hc,ai] at h;exact Mh h
   subst hee
   have hag:Ag bx bx' e2:=⟨fun n b hf=>ha b (.inl (lQ hf)),fun b hb=>ha b (.inr hb)⟩
   have a:=(A9 t.sl _ e1 h1)
   have b:=(oM t.bx e1 e2 h2)
   rw[a.2 bx' (hag.le b.1)]
   replace h2:ic T bx' t.bx e1=some e2:=b.2 bx' hag
   simp only
   rw[h2]
   exact h
  ·simp at h
 ·simp at h
theorem zr {out:List (Nat×BSk)}:∀ {r:Ren},(∀b,b∈names r->bx' b=bx b)->na bx' out r=na bx out r
 |[],_=>rfl
 |(n,none)::r,h=>zr (r:=r) h
 |(n,some b)::r,h=>by
  have h1:=zr (out:=out) (r:=r) (fun c hc=>h c (MF _ hc))
  have h2:=h b (Mz ..)
  show sif (bL out n) _ _=sif (bL out n) _ _
  rw[h1,h2]
theorem JC {ip:List Nat} {r:Ren} {out:List (Nat×BSk)} {d:Nat} (h:∀b,b∈names r->bx' b=bx b) (h2:∀n,bL out n=true->(∀b,r.find n≠some (some b))->bx' (pd d n)=bx (pd d n)):
  qe ip r out bx' d=qe ip r out bx d:=by
 funext n
 unfold qe
 cases ho:bL out n with
 |false=>rfl
 |true=>
  rw[ai,ai]
  rcases hr:r.find n with _|_|b
  ·simp only[h2 n ho (fun b hb=>by rw[hr] at hb;simp at hb)]
  ·simp only[h2 n ho (fun b hb=>by rw[hr] at hb;simp at hb)]
  ·simp only[h b (lQ hr)]
theorem It {r:Ren} (h:∀b,b∈names r->bx' b=bx b):∀q:List Nat,ipM bx' r q=ipM bx r q
 |[]=>rfl
 |n::q=>by
  have h1:=It h q
  show az (match r.find n with|some (some b)=>(match bx' b with|some x=>dY (Nat.beq x.m 4)|none=>true)|_=>true) (ipM bx' r q)=_
  rw[h1]
  rcases hr:r.find n with _|_|b
  ·simp only[ipM,hr]
  ·simp only[ipM,hr]
  ·simp only[ipM,hr,h b (lQ hr)]
   cases bx b<;>rfl
theorem GP (T:Tys) (tr:Nat->Bool) (fs:FS) (d:Nat) (vs:List V):Loc (Bu T tr fs d vs):=by
 intro bx k r h
 unfold Bu at h
 split at h
 ·simp at h
 rename_i e he
 cases hb:Nat.beq (len vs) fs.n with
 |false=>simp[hb,sif] at he
 |true=>
 rw[hb,ai] at he
 cases hc:az (orS (az (isNil e.fz) (lI tr fs.outT.bx)) (orS fs.outT.flat (az fs.outT.pure (orS (lI tr fs.outT.bx) (az (isNil fs.ip) (lI Er fs.inT.bx)))))) (az (Bk fs.inT.bx fs.ip fs.outT.bx) (az (mR fs.inT.bx fs.ip) (ipM bx e.r fs.ip))) with
 |false=>simp[hc,sif] at h
 |true=>
 rw[hc,ai] at h
 unfold im at h
 split at h
 ·rename_i ys hys
  replace h:sif (bM (bZ (dD tr fs d e.r bx ys))) (k ⟨vj fs d e.r bx ys,dD tr fs d e.r bx ys⟩ (app (names e.r) (app e.fz (bZ (dD tr fs d e.r bx ys))))) none=some r:=h
  cases hnd:bM (bZ (dD tr fs d e.r bx ys)) with
  |false=>simp[hnd,sif] at h
  |true=>
  rw[hnd,ai] at h
  refine ⟨_,_,h,fun bx' ha k'=>?_⟩
  rw[fP,fP] at ha
  have hnames:∀b,b∈names e.r->bx' b=bx b:=fun b hb=>ha b (List.mem_append_left _ hb)
  have hext:=Ez he (bx':=bx') (fun b hb=>hb.elim (hnames b) fun hb=>ha b (List.mem_append_right _ (List.mem_append_left _ hb)))
  have hnm:qe fs.ip e.r fs.outT.bx bx' d=qe fs.ip e.r fs.outT.bx bx d:=JC hnames fun n ho hf=>by
   refine ha _ (List.mem_append_right _ (List.mem_append_right _ ?_))
   unfold dD
   rw[fP,tW]
   refine List.mem_append_left _ ?_
   have:=se (tr:=tr) (nm:=qe fs.ip e.r fs.outT.bx bx d) (xs:=ys) (p:=(cy (qe fs.ip e.r fs.outT.bx bx d) ys fs.outT.sl 0 fun _=>.un).2) ho
   rw[(Bv ho hf).1] at this
   exact this
  have hups:dD tr fs d e.r bx' ys=dD tr fs d e.r bx ys:=by unfold dD;rw[hnm,zr hnames]
  have hov:vj fs d e.r bx' ys=vj fs d e.r bx ys:=by unfold vj;rw[hnm]
  unfold Bu
  rw[hb,ai,hext]
  simp only
  rw[It hnames,hc,ai,hys]
  show sif (bM (bZ (dD tr fs d e.r bx' ys))) _ _=_
  rw[hups,hov,hnd,ai]
 ·simp at h
theorem GG (T:Tys) (tr:Nat->Bool) (fs:FS) (d:Nat) (vs:List V):Loc (y0 T tr fs d vs):=by
 unfold y0
 split
 ·unfold Co
  refine Loc.bind (Loc.bR _) fun y=>?_
  split
  ·refine Loc.bind (Loc.bd _) fun _=>Loc.bind (Loc.bd _) fun _=>Loc.bind (Loc.opt _) fun _=>Loc.bind (Loc.opt _) fun x=>fun bx k r h=>?_
   replace h:im (fs.F (rev (_::x.xs) [])) _=some r:=h
   unfold im at h
   split at h
   ·rename_i ys hys
    refine ⟨_,[],h,fun bx' _ k'=>?_⟩
    show im (fs.F (rev (_::x.xs) [])) _=_
    rw[hys];rfl
   ·simp at h
  ·exact Loc.fail
 ·exact GP _ _ _ _ _
end
end Go.Ev
