/- Proved here: the law FnPilotOrderCard of the given program answers true at every input, and leaves the input as it was; no condition. This text: lemmas on the way (an evaluator of the program's code, sound once for all; the functions it prints; plain proofs on these). -/
import Derived.Test.YtjjlcnfineddoaaGreatDoorP0
import Derived.Laws.BytesString
set_option linter.all false
set_option autoImplicit false
namespace Go.Ev
section
variable {P:Program} {T:Tys} {fr:Fr} {F:Nat→Prop} {w:World} {bx:Bxs} {θ:Nat→Value}
theorem kz (t ty e:TypeId) (i:TypeInfo) (ht:P.underlying t=some (.slice e)) (hi:P.info? e=some i) (A B:Option Addr) (n cap c:Nat) (hc:n≤cap):
  (Builtin.append_ #[t,t] ty #[.slice A n cap,.slice B 0 c]).run P w=.ok (.slice A n cap) w:=by
 have hf:(Builtin.firstCells i.size 0 (.slice B 0 c)).run P w=.ok #[] w:=by
  cases B with
  |none=>simp[Builtin.firstCells]
  |some a=>
   have:=run_loadCells_list (P:=P) w a [] (fun j v h=>by simp at h)
   simpa [Builtin.firstCells] using this
 cases A with
 |none=>simp[Builtin.append_,run_underlying ht,sizeOf,typeInfo,hi,Builtin.lenOf,hc,hf]
 |some a=>simp[Builtin.append_,run_underlying ht,sizeOf,typeInfo,hi,Builtin.lenOf,hc,hf,storeCells]
theorem yX (hw:WR T fr F w bx θ) {b:Nat} {t:TypeId} {d:TD} {es:List (List C)} {ver g cap m:Nat} {cs:Array Value} {w':World} (hd:aV T t=some d)
  (hv:∀x,bx b=some x→x.ver<ver) (hs:cs.size=cap*d.cts.length) (hc:es.length≤cap∧cap≤maxLen) (hg:w'.heap[g]?=some (.cells cs t (0,0)))
  (hh:∀k,k<w.heap.size→w'.heap[k]?=w.heap[k]?∨(k=g∧∃x,bx b=some x∧x.live=true∧bA (θ b)=some g))
  (hfresh:(w.heap.size≤g∧g<w'.heap.size)∨∃x,bx b=some x∧x.live=true∧bA (θ b)=some g)
  (hsz:w.heap.size≤w'.heap.size) (hos:w'.os=w.os) (htp:w'.tape=w.tape) (hou:w'.output=w.output∧w.drawn≤w'.drawn) (hm:¬2≤m)
  (hr:(∀k,F k→w'.heap[k]?=w.heap[k]?)→Rws (bX T F w') d es cs.toList)
  (hl:m≠0→fR T w d es cs.toList∧∀k,fN T w d es cs.toList k→F k∧Fre fr T w bx θ b k):
  Aft T fr F w bx θ ⟨.ow b ver,[(b,.arr ver t es m)]⟩ (.slice (some ⟨g,0,none⟩) es.length cap) w':=
 oZ hw hd hv (by omega) hc hg hh hfresh hsz hos htp hou hm (fun h=>by rw[List.drop_zero];exact hr h) (fun h=>by rw[List.drop_zero];exact (hl h).1) (fun h=>by rw[List.drop_zero];exact (hl h).2)
theorem jE (w:World) (t ty e:TypeId) (i:TypeInfo) (ht:P.underlying t=some (.slice e)) (hi:P.info? e=some i)
  (g o sLen sCap:Nat) (cur:Array Value) (hg:w.heap[g]?=some (.cells cur e (0,0)))
  (a:Addr) (m c:Nat) (news:List Value) (hl:news.length=m*i.size) (hnews:∀j u,news[j]?=some u→w.cell? (a.add j)=some u) (h1:∀u∈news,u.oneCell'=true)
  (hroom:sLen+m≤sCap) (hfit:o+sLen*i.size+news.length≤cur.size):
  (Builtin.append_ #[t,t] ty #[.slice (some ⟨g,o,none⟩) sLen sCap,.slice (some a) m c]).run P w=
   .ok (.slice (some ⟨g,o,none⟩) (sLen+m) sCap) (w.setRow g (cur.toList.take (o+sLen*i.size)++news++cur.toList.drop (o+sLen*i.size+news.length)).toArray):=by
 have hf:=run_firstCells_some (P:=P) w i.size m a m c news hl hnews
 have hst:=run_storeCells_at P g (o+sLen*i.size) e news 0 cur w hg (by simpa using hfit) h1
 simp only[Nat.add_zero] at hst
 simp[Builtin.append_,run_underlying ht,sizeOf,typeInfo,hi,Builtin.lenOf,hroom,hf,Addr.add_lit,hst]
theorem zj (hw:WR T fr F w bx θ) {b:Nat} {t:TypeId} {d:TD} {ver:Nat} (m:Nat) (hd:aV T t=some d) (hv:∀x,bx b=some x→x.ver<ver):
  Aft T fr F w bx θ ⟨.ow b ver,[(b,.arr ver t [] m)]⟩ (.slice none 0 0) w:=by
 have:=hw.put b (.arr ver t [] m) (.slice none 0 0) w (fun x hx=>.inl (hv x hx)) (fun k hk=>.inl rfl) (Nat.le_refl _) rfl rfl ⟨rfl,Nat.le_refl _⟩ (fun q hq=>by simp[bA] at hq)
  (fun k h=>ra h.2) (fun _=>sa.toM)
  (fun _=>⟨d,none,0,hd,ar _ _ _,fun i c h=>by simp at h,.inl ⟨rfl,rfl,rfl⟩⟩)
 exact ⟨F,_,this.1,this.2,.ow b _ _ _ (ar _ _ _) (Nat.le_refl _) ⟨_,_,_,rfl⟩ fun _=>⟨t,[],m,rfl,(ar _ _ _).symm⟩⟩
theorem ic.mode {b ver m:Nat} {t:TypeId} {es:List (List C)} (h:ic T F w bx θ b (.arr ver t es 0)) (hm:¬2≤m):ic T F w bx θ b (.arr ver t es m):=by
 obtain ⟨d,A,cap,h1,h2,h3,h4⟩:=h
 refine ⟨d,A,cap,h1,h2,h3,h4.imp id ?_⟩
 rintro ⟨g,o,cs,q1,q2,q3,q4,q5⟩
 exact ⟨g,o,cs,q1,q2,q3,q4,fun i c j x ct v a1 a2 a3 a4=>by rw[pv hm];exact q5 i c j x ct v a1 a2 a3 a4⟩
theorem vI {t:TypeId} {d:TD} {es:List (List C)} {v:Value} {k:Nat} (hd:aV T t=some d) (hf:bF d.cts=true):¬Nst T w t es v k:=by
 rintro ⟨i,j,ct,c,u,⟨d',g,o,n,cap,row,h1,h2,h3,h4,h5,h6⟩,hk⟩
 rw[hd] at h1;obtain rfl:=Option.some.inj h1
 have:=cQ hf _ _ h5
 rw[k7 hk] at this;simp at this
theorem sy {b ver:Nat} {t:TypeId} {d:TD} {es:List (List C)} (h:ic T F w bx θ b (.arr ver t es 0)) (hd:aV T t=some d) (hf:bF d.cts=true):nC T w t es (θ b):=by
 obtain ⟨d',A,cap,h1,h2,h3,h4⟩:=h
 rw[hd] at h1;obtain rfl:=Option.some.inj h1
 refine ⟨fun i j ct c u hc=>?_,fun i j ct c u i' j' ct' c' u' k h1 h2 h3 h4=>absurd ⟨i,j,ct,c,u,h1,h3⟩ (vI hd hf)⟩
 obtain ⟨d',g,o,n,cap',row,c1,c2,c3,c4,c5,c6⟩:=hc
 rw[hd] at c1;obtain rfl:=Option.some.inj c1
 rw[h2] at c2
 simp only[Value.slice.injEq] at c2
 obtain ⟨rfl,rfl,rfl⟩:=c2
 rcases h4 with ⟨q,_⟩|⟨g',o',cs,q1,q2,q3,q4,q5⟩
 ·simp at q
 ·simp only[Option.some.injEq,Addr.mk.injEq,and_true] at q1
  obtain ⟨rfl,rfl⟩:=q1
  have q6:bX T F w ct c u:=q5 i row j c ct u c3 c4 c5 (by simpa [World.cell?,q2] using c6)
  exact q6.rl (cQ hf _ _ c5)
theorem vM (d:TD):¬2≤mF d∧(mF d≠0→bF d.cts=true):=by
 unfold mF
 cases h:bF d.cts<;>simp[sif]
theorem oQ (w:World) (o:Obj):(w.drew.alloc o).os=w.os∧(w.drew.alloc o).tape=w.tape∧((w.drew.alloc o).output=w.output∧w.drawn≤(w.drew.alloc o).drawn)∧(w.drew.alloc o).heap.size=w.heap.size+1∧
  (w.drew.alloc o).heap[w.heap.size]?=some o∧∀k,k<w.heap.size→(w.drew.alloc o).heap[k]?=w.heap[k]?:=
 ⟨rfl,rfl,⟨rfl,Nat.le_succ _⟩,by simp,heap_alloc_new w.drew o,fun k hk=>heap_alloc_old w.drew o hk⟩
theorem xo:4294967296≤maxLen:=by simp[maxLen]
theorem pc {n b:Nat} (hn:n≤4294967296) (hb:b≤16384):n*b≤70368744177664:=Nat.le_trans (Nat.mul_le_mul hn hb) (by decide)
theorem y6 {b v m md:Nat} {lo hi:Int} {t:TypeId} {d:TD} {es:List (List C)} {va:Value} (hx:aj T F w bx θ (.vw b v lo hi) va) (hbx:bx b=some (.arr v t es m)) (hm:¬2≤m) (hd0:aV T t=some d) (hmd:¬2≤md∧(md≠0→bF d.cts=true)) (hlo:lo=0∨lo<hi) (hw:WR T fr F w bx θ):
  (WR T fr F w (upd bx b (some (.arr (v+1) t ((es.take hi.toNat).drop lo.toNat) md))) (upd θ b va)∧Mv F w bx θ F w (upd bx b (some (.arr (v+1) t ((es.take hi.toNat).drop lo.toNat) md))) (upd θ b va))∧∃A n c,va=.slice A n c:=by
 obtain ⟨_,dt,A,c,hd,h0,h1,h2,hva,hcc,hblk,hZ⟩:=qH hx hbx (Nat.beq_refl _)
 rw[hd0] at hd
 obtain rfl:=Option.some.inj hd
 obtain ⟨d2,A2,cap2,hd2,hth2,hlen2,hA2⟩:=kV hw hbx hm
 rw[hd0] at hd2
 obtain rfl:=Option.some.inj hd2
 have hl:((es.take hi.toNat).drop lo.toNat).length=(hi-lo).toNat:=u9 h0 h1 h2
 have key:∀(i:Nat) (c:List C),((es.take hi.toNat).drop lo.toNat)[i]?=some c→es[lo.toNat+i]?=some c:=by
  intro i c hc
  rw[List.getElem?_drop,List.getElem?_take] at hc
  split at hc
  ·exact hc
  ·simp at hc
 have hR:ic T F w (upd bx b (some (.arr (v+1) t ((es.take hi.toNat).drop lo.toNat) md))) (upd θ b va) b (.arr (v+1) t ((es.take hi.toNat).drop lo.toNat) 0):=by
   refine ⟨d,A,c,hd0,by rw[ar,hva,hl],fun i q hq=>hlen2 _ q (key i q hq),?_⟩
   rcases hlo with hz|hz
   ·have hth:=hZ hz
    rw[hth] at hth2
    simp only[Value.slice.injEq,true_and] at hth2
    obtain ⟨rfl,rfl⟩:=hth2
    rcases hA2 with ⟨rfl,rfl,rfl⟩|⟨g,o,cs,g1,g2,g3,g4,g5⟩
    ·exact .inl ⟨rfl,by simp,rfl⟩
    ·refine .inr ⟨g,o,cs,g1,g2,g3,⟨by omega,g4.2⟩,fun i q j x ct u a1 a2 a3 a4=>?_⟩
     have hz':lo.toNat+i=i:=by omega
     have a1':=key i q a1
     rw[hz'] at a1'
     exact g5 i q j x ct u a1' a2 a3 a4
   ·obtain ⟨g,o,e1,rfl⟩:=hblk hz
    rw[e1] at hth2
    simp only[Value.slice.injEq,true_and] at hth2
    obtain ⟨rfl,rfl⟩:=hth2
    rcases hA2 with ⟨q1,_,_⟩|⟨g',o',cs,g1,g2,g3,g4,g5⟩
    ·simp at q1
    ·simp only[Option.some.injEq,Addr.mk.injEq,and_true] at g1
     obtain ⟨rfl,rfl⟩:=g1
     refine .inr ⟨g,o+lo.toNat*d.cts.length,cs,rfl,g2,by rw[g3,Nat.add_mul];omega,⟨by omega,by omega⟩,fun i q j x ct u a1 a2 a3 a4=>?_⟩
     refine g5 (lo.toNat+i) q j x ct u (key i q a1) a2 a3 ?_
     rw[←a4];congr 1;rw[Nat.add_mul];omega
 have hput:=hw.put b (.arr (v+1) t ((es.take hi.toNat).drop lo.toNat) md) va w (fun z hz=>by
   replace hz:bx b=some z:=hz
   rw[hbx] at hz;obtain rfl:=Option.some.inj hz;exact .inl (Nat.lt_succ_self v)) (fun q hq=>.inl rfl) (Nat.le_refl _) rfl rfl ⟨rfl,Nat.le_refl _⟩
  (fun q hq=>.inr ⟨_,hbx,rfl,by
   rw[hva] at hq
   rcases hlo with hz|hz
   ·rw[hZ hz];cases A<;>simpa [bA] using hq
   ·obtain ⟨g,o,e1,rfl⟩:=hblk hz
    rw[e1];simpa [bA] using hq⟩)
  (fun k hk=>vI hd0 (hmd.2 hk.1) hk.2) (fun h=>by have:=sy hR hd0 (hmd.2 h);rw[ar] at this;exact this.toM) (fun _=>hR.mode hmd.1)
 exact ⟨hput,A,_,c,hva⟩
theorem Cj (hw:WR T fr F w bx θ) {e:TypeId} {de:TD} {b' m m':Nat} {es src:List (List C)} {us news ws:List Value} (hy:es≠[]→∃v',bx b'=some (.arr v' e es m))
  (hus:∀i j ct c u,AtU de es us i j ct c u→cy T w e es (θ b') i j ct c u) (hul:us.length=es.length*de.cts.length) (hnl:news.length=src.length*de.cts.length) (hrw:Rws (bX T F w) de es us) (hnr:Rws (bX T F w) de src news)
  (hlin:m'≠0→bF de.cts=true∨((es≠[]→m=1)∧fR T w de src news∧∀k,fN T w de src news k→F k∧∀c,Fre fr T w bx θ c k)):
  m'≠0→fR T w de (es++src) (us++news++ws)∧∀k,fN T w de (es++src) (us++news++ws) k→F k∧Fre fr T w bx θ b' k:=by
 intro h0
 rcases hlin h0 with hf|⟨hm1,hL,hN⟩
 ·exact ⟨sJ hf (Rws.app hrw hul hnr hnl),fun k hk=>absurd hk (px hf)⟩
 ·have hu:fR T w de es us∧∀k,fN T w de es us k→∃v',bx b'=some (.arr v' e es 1)∧(Box.arr v' e es 1).nst T w (θ b') k:=by
   by_cases he:es=[]
   ·have no:∀i j ct c u,¬AtU de es us i j ct c u:=by
     subst he
     rintro i j ct c u ⟨row,h1,_⟩
     simp at h1
    exact ⟨⟨fun i j ct c u h=>absurd h (no _ _ _ _ _),fun i j ct c u i' j' ct' c' u' k h=>absurd h (no _ _ _ _ _)⟩,fun k ⟨i,j,ct,c,u,h,_⟩=>absurd h (no _ _ _ _ _)⟩
   ·obtain ⟨v',hy⟩:=hy he
    obtain rfl:=hm1 he
    have hb:nC T w e es (θ b'):=(hw.lin b' _ hy (by decide)).1 (by decide)
    exact ⟨⟨fun i j ct c u h=>hb.rel _ _ _ _ _ (hus _ _ _ _ _ h),fun i j ct c u i' j' ct' c' u' k h1 h2=>hb.dj _ _ _ _ _ _ _ _ _ _ k (hus _ _ _ _ _ h1) (hus _ _ _ _ _ h2)⟩,fun k ⟨i,j,ct,c,u,h1,h2⟩=>⟨v',hy,by decide,i,j,ct,c,u,hus _ _ _ _ _ h1,h2⟩⟩
  refine ⟨fR.app hu.1 hul hL hnl fun k h1 h2=>?_,fun k hk=>?_⟩
  ·obtain ⟨v',hy,hn⟩:=hu.2 k h1
   exact ((hN k h2).2 (b'+1)).2.2.2 b' _ (by omega) hy hn
  rcases DT hul hnl hk with h|h
  ·obtain ⟨v',hy,hn⟩:=hu.2 k h
   exact ⟨(hw.own b' _ k hy hn).2.2.1 (by simp[Box.m]),pD hw hy hn⟩
  ·exact ⟨(hN k h).1,(hN k h).2 b'⟩
theorem qo (hT:TOk P T) (hw:WR T fr F w bx θ) {t ty e:TypeId} {de:TD} {b' v' m m':Nat} {es src:List (List C)} {B:Option Addr} {c:Nat} {news:List Value}
  (he:dU T t=some e) (hde:aV T e=some de) (c1:de.bytes≤16384) (hy:bx b'=some (.arr v' e es m)) (hm:¬2≤m) (hm':¬2≤m') (hlin:m'≠0→bF de.cts=true∨(m=1∧fR T w de src news∧∀k,fN T w de src news k→F k∧∀c,Fre fr T w bx θ c k)) (c3:es.length+src.length≤4294967296)
  (hnl:news.length=src.length*de.cts.length) (hnr:Rws (bX T F w) de src news) (hnc:src=[]∨∃a,B=some a∧∀j u,news[j]?=some u→w.cell? (a.add j)=some u):
  ∃v w',(Builtin.append_ #[t,t] ty #[θ b',.slice B src.length c]).run P w=.ok v w'∧Aft T fr F w bx θ ⟨.ow b' (v'+1),[(b',.arr (v'+1) e (es++src) m')]⟩ v w':=by
 have ht:=bV hT hde
 have hte:=fh hT he
 have hpos:=ht.pos
 obtain ⟨i,z,hi,hz,hsz,hb,hzc⟩:=ht.facts
 have hzs:z.cells.size=de.cts.length:=by simp[hzc]
 have hn1:=hnr.one hpos hnl
 have hmx:=xo
 obtain ⟨A,cap,us,hth,hul,hrw,hA⟩:=jd (kV hw hy hm) hde
 have hvv:∀x,bx b'=some x→x.ver<v'+1:=fun x hx=>by rw[hy] at hx;obtain rfl:=Option.some.inj hx;exact Nat.lt_succ_self _
 have hel:(es++src).length=es.length+src.length:=by simp
 have hlin2:m'≠0→bF de.cts=true∨((es≠[]→m=1)∧fR T w de src news∧∀k,fN T w de src news k→F k∧∀c,Fre fr T w bx θ c k):=fun h=>(hlin h).imp id fun h=>⟨fun _=>h.1,h.2⟩
 have hus:∀i j ct c u,AtU de es us i j ct c u→cy T w e es (θ b') i j ct c u:=by
  rintro i j ct c u ⟨row,h1,h2,h3,h4⟩
  rcases hA with ⟨_,rfl,_⟩|⟨g,o,cs,rfl,q1,q2,q3,rfl⟩
  ·simp at h1
  ·rw[hth]
   refine (cY hde q1).2 ⟨row,h1,h2,h3,?_⟩
   rw[List.getElem?_take] at h4
   split at h4
   ·exact h4
   ·simp at h4
 have hall:∀ws,m'≠0→fR T w de (es++src) (us++news++ws)∧∀k,fN T w de (es++src) (us++news++ws) k→F k∧Fre fr T w bx θ b' k:=fun ws=>Cj hw (fun _=>⟨v',hy⟩) hus hul hnl hrw hnr hlin2
 rcases hA with ⟨rfl,rfl,rfl⟩|⟨g,o,cs,rfl,q1,q2,q3,rfl⟩
 ·rw[hth]
  by_cases h0:src=[]
  ·subst h0
   exact ⟨_,_,kz t ty e i hte hi none B 0 0 c (Nat.le_refl _),zj hw m' hde hvv⟩
  ·obtain ⟨a,rfl,hcell⟩:=hnc.resolve_left h0
   have hlp:0<src.length:=List.length_pos_iff.2 h0
   have c2:src.length≤4294967296:=by simpa using c3
   have hby:=pc c2 c1
   rw[←hb] at hby
   have hrun:=run_append_nil (P:=P) w t ty e i z hte hi hz a src.length c news (by rw[hsz];exact hnl) hcell hlp (by omega) (by omega)
   obtain ⟨f1,f2,f3,f4,f5,f6⟩:=oQ w (.cells (news.toArray++Builtin.zeroCells z.cells (grownCap w src.length 0 e-src.length)) e)
   have g1:=grownCap_ge w src.length 0 e
   have g2:=grownCap_le_maxLen w src.length 0 e (by omega)
   refine ⟨_,_,hrun,yX (es:=[]++src) hw hde hvv ?_ ⟨by simpa using g1,g2⟩ f5 (fun k hk=>.inl (f6 k hk)) (.inl ⟨Nat.le_refl _,by omega⟩) (by omega) f1 f2 f3 hm' ?_ fun h=>by
    have hu0:us=[]:=List.length_eq_zero_iff.1 (by simpa using hul)
    subst hu0
    simpa using hall (Builtin.zeroCells z.cells (grownCap w src.length 0 e-src.length)).toList h⟩
   ·simp only[Array.size_append,List.size_toArray,size_zeroCells,hnl,hzs]
    rw[←Nat.add_mul];congr 1;omega
   ·intro hF
    have h1:=(Rws.app (Rws.nil de []) (by simp) hnr hnl (ws:=(Builtin.zeroCells z.cells (grownCap w src.length 0 e-src.length)).toList))
    simpa using h1.mv (fun _ h=>h) hF
 ·rw[hth]
  have hlive:∃x,bx b'=some x∧x.live=true∧bA (θ b')=some g:=⟨_,hy,rfl,by rw[hth];rfl⟩
  have hfull:Rws (bX T F w) de es (cs.toList.drop o):=hrw.pQ (by rw[List.take_take,Nat.min_self])
  by_cases h0:src=[]
  ·subst h0
   refine ⟨_,_,kz t ty e i hte hi _ B es.length cap c q3.1,?_⟩
   have hnn:news=[]:=List.length_eq_zero_iff.1 (by simpa using hnl)
   subst hnn
   have hall:=fun h=>hall ((cs.toList.drop o).drop (es.length*de.cts.length)) h
   simp only[List.append_nil,List.take_append_drop] at hall
   have:=oZ (es:=es++[]) (cap:=cap) (cs:=cs) (g:=g) (o:=o) (m:=m') (w':=w) hw hde hvv q2 (by simpa using q3) q1 (fun k hk=>.inl rfl) (.inr hlive) (Nat.le_refl _) rfl rfl ⟨rfl,Nat.le_refl _⟩ hm' (fun _=>by simpa using hfull) (fun h=>by simpa using (hall h).1) (fun h=>by simpa using (hall h).2)
   simpa using this
  ·obtain ⟨a,rfl,hcell⟩:=hnc.resolve_left h0
   have hcsl:cs.toList.length=cs.size:=by simp
   by_cases hroom:es.length+src.length≤cap
   ·have hfit:o+es.length*de.cts.length+news.length≤cs.size:=by
     rw[hnl,q2,Nat.add_assoc,←Nat.add_mul];exact Nat.add_le_add_left (Nat.mul_le_mul_right _ hroom) o
    have hrun:=jE (P:=P) w t ty e i hte hi g o es.length cap cs q1 a src.length c news (by rw[hsz];exact hnl) hcell hn1 hroom (by rw[hsz];exact hfit)
    rw[hsz] at hrun
    obtain ⟨f1,f2,f3,f4⟩:=ie w g (cs.toList.take (o+es.length*de.cts.length)++news++cs.toList.drop (o+es.length*de.cts.length+news.length)).toArray
    refine ⟨_,_,hrun,?_⟩
    have:=oZ (es:=es++src) (cap:=cap) (g:=g) (o:=o) (ver:=v'+1) (m:=m') (w':=w.setRow g (cs.toList.take (o+es.length*de.cts.length)++news++cs.toList.drop (o+es.length*de.cts.length+news.length)).toArray) hw hde hvv
     (by rw[List.size_toArray,dX (by omega)];exact q2) ⟨by omega,q3.2⟩ (setRow_heap w g _ _ e _ q1)
     (fun k hk=>by
      by_cases hkg:k=g
      ·exact .inr ⟨hkg,hlive⟩
      ·exact .inl (setRow_other w g k _ hkg)) (.inr hlive) (by omega) f1 f2 f3 hm'
     (fun hF=>by
      have h1:=Rws.app hrw hul hnr hnl (ws:=(cs.toList.drop o).drop (es.length*de.cts.length+news.length))
      have h2:=h1.mv (fun _ h=>h) hF
      rw[←fT _ _ _ _ (by omega)] at h2
      simpa using h2)
     (fun h=>by
      have:=(hall ((cs.toList.drop o).drop (es.length*de.cts.length+news.length)) h).1
      rw[←fT _ _ _ _ (by omega)] at this
      simpa using this)
     (fun h=>by
      have:=(hall ((cs.toList.drop o).drop (es.length*de.cts.length+news.length)) h).2
      rw[←fT _ _ _ _ (by omega)] at this
      simpa using this)
    rw[hel] at this
    exact this
   ·have hby:=pc c3 c1
    rw[←hb] at hby
    have hgf:=growslice_fits (need:=es.length+src.length) (old:=cap) (bytes:=i.bytes) (by omega) (by omega)
    have hrun:=run_append_grow (P:=P) w t ty e i z hte hi hz ⟨g,o,none⟩ es.length cap ((cs.toList.drop o).take (es.length*de.cts.length)) (by rw[hsz];exact hul)
     (fun j u hu=>by
      rw[Addr.add_lit]
      rw[List.getElem?_take] at hu
      split at hu
      ·rw[List.getElem?_drop] at hu
       simp[World.cell?,q1];simpa using hu
      ·simp at hu)
     a src.length c news (by rw[hsz];exact hnl) hcell (by omega) (by omega) hgf
    have g1:=grownCap_ge w (es.length+src.length) cap e
    have g2:=grownCap_le_maxLen w (es.length+src.length) cap e (by omega)
    obtain ⟨f1,f2,f3,f4,f5,f6⟩:=oQ w (.cells (((cs.toList.drop o).take (es.length*de.cts.length)).toArray++news.toArray++Builtin.zeroCells z.cells (grownCap w (es.length+src.length) cap e-(es.length+src.length))) e)
    refine ⟨_,_,hrun,?_⟩
    have:=yX (es:=es++src) (cap:=grownCap w (es.length+src.length) cap e) (ver:=v'+1) (m:=m') hw hde hvv
     (by
      simp only[Array.size_append,List.size_toArray,size_zeroCells,hnl,hzs,hul]
      rw[←Nat.add_mul,←Nat.add_mul];congr 1;omega) ⟨by omega,g2⟩ f5 (fun k hk=>.inl (f6 k hk)) (.inl ⟨Nat.le_refl _,by omega⟩) (by omega) f1 f2 f3 hm'
     (fun hF=>by
      have h1:=Rws.app hrw hul hnr hnl (ws:=(Builtin.zeroCells z.cells (grownCap w (es.length+src.length) cap e-(es.length+src.length))).toList)
      simpa using h1.mv (fun _ h=>h) hF)
     (fun h=>by simpa using hall (Builtin.zeroCells z.cells (grownCap w (es.length+src.length) cap e-(es.length+src.length))).toList h)
    rw[hel] at this
    exact this
theorem rP (hT:TOk P T) (hw:WR T fr F w bx θ) {e:TypeId} {de:TD} (hde:aV T e=some de) {x:V} {v:Value} (hx:aj T F w bx θ x v) {k:List (List C)→List Nat→R} {r:Out}
  (h:ib e x bx k=some r):∃src rd,k src rd=some r∧Src T F w de src v∧∀b ver v t es m,x=.ow b ver→bx b=some (.arr v t es m)→t=e∧src=es:=by
 by_cases hq:∃b ver,x=.ow b ver
 ·obtain ⟨b,ver,rfl⟩:=hq
  have h2:=h
  unfold ib at h
  replace h:=kR h;obtain ⟨y,hy,h⟩:=h
  split at h
  ·rename_i v e' es m
   replace h:=kS h;obtain ⟨c1,h⟩:=h
   have hk:ib e (.ow b ver) bx (fun s _=>some (.ret [.l s]))=some (.ret [.l es]):=by
    show (match bx b with|some x=>_|none=>none)=_
    rw[hy]
    show sif _ _ _=_
    rw[c1];rfl
   obtain ⟨src,rd,h1,h3⟩:=pf hT hw hde hx hk
   simp only[Option.some.injEq,Out.ret.injEq,List.cons.injEq,C.l.injEq,and_true] at h1
   subst h1
   refine ⟨_,_,h,h3,fun b' ver' v' t' es' m' e1 e2=>?_⟩
   simp only[V.ow.injEq] at e1
   obtain ⟨rfl,rfl⟩:=e1
   rw[hy] at e2
   simp only[Option.some.injEq,Box.arr.injEq] at e2
   obtain ⟨rfl,rfl,rfl,rfl⟩:=e2
   simp only[aq,Bool.and_eq_true] at c1
   exact ⟨(Nat.eq_of_beq_eq_true c1.1.2).symm,rfl⟩
  ·exact (aD h).elim
 ·obtain ⟨src,rd,h1,h2⟩:=pf hT hw hde hx h
  exact ⟨src,rd,h1,h2,fun b ver v t es m e=>absurd ⟨b,ver,e⟩ hq⟩
theorem Aft.kill {K:List KE} {F1:Nat→Prop} (m1:Mv F w bx θ F1 w (dg bx (bS K)) θ) {v:V} {up:List (Nat×Box)} {val:Value} {w':World} (h:Aft T fr F1 w (dg bx (bS K)) θ ⟨v,up⟩ val w'):Aft T fr F w bx θ ⟨v,app (bS K) up⟩ val w':=by
 obtain ⟨F2,θ2,a1,a2,a3⟩:=h
 refine ⟨F2,θ2,?_,?_,?_⟩
 ·show WR T fr F2 w' (dg bx (app (bS K) up)) θ2
  rw[jh];exact a1
 ·show Mv F w bx θ F2 w' (dg bx (app (bS K) up)) θ2
  rw[jh];exact m1.trans a2
 ·show aj T F2 w' (dg bx (app (bS K) up)) θ2 v val
  rw[jh];exact a3
theorem GW {X:Cx} (hw:WR T fr F w bx θ) {x:V} {vx:Value} (hx:aj T F w bx θ x vx) {de:TD} {e:TypeId} (hde:aV T e=some de) {src:List (List C)} {news:List Value} {B:Option Addr} {n c:Nat} (hvx:vx=.slice B n c) (hnc:src=[]∨∃a,B=some a∧∀j u,news[j]?=some u→w.cell? (a.add j)=some u)
  (hs:∀b ver v t es m,x=.ow b ver→bx b=some (.arr v t es m)→t=e∧src=es) {k:List KE×Bool→List Nat→R} {r:Out} (h:mvK X x bx k=some r):
  ∃K q rd,k (K,q) rd=some r∧∃F1,WR T fr F1 w (dg bx (bS K)) θ∧Mv F w bx θ F1 w (dg bx (bS K)) θ∧
   (q=true→fR T w de src news∧∀k,fN T w de src news k→F1 k∧∀c,Fre fr T w (dg bx (bS K)) θ c k):=by
 unfold mvK at h
 split at h
 ·rename_i b ver
  cases hmb:cJ X.mv b with
  |false=>rw[hmb,aR] at h;exact ⟨[],false,_,h,F,hw,Mv.refl _ _ _ _,by simp⟩
  |true=>
   rw[hmb,af] at h
   rw[bnd] at h;obtain ⟨q,rdq,h_,hq⟩:=ln h;clear h;have h:=h_;clear h_
   rw[bnd] at h;obtain ⟨K,rdk,h_,hK,hO,hN⟩:=mo h;clear h;have h:=h_;clear h_
   have hnd:bD (bN (bS K))=true:=by rw[hN];rfl
   obtain ⟨F1,hw1,m1,r1,gK⟩:=B9 hw hK hnd
   refine ⟨K,q,_,h,F1,hw1,m1,fun hqt=>?_⟩
   obtain ⟨t,es,hm⟩:=hO b ver (by simp)
   obtain ⟨m,hb,hm2⟩:=hK _ _ _ _ hm
   have hm1:m=1:=by
    rcases hq hqt _ (List.mem_singleton.2 rfl) with ⟨t,c,e1,_⟩|e1|e1|⟨b',ver',v',t',es',e1,e2⟩
    ·simp at e1
    ·simp at e1
    ·simp at e1
    ·simp only[V.ow.injEq] at e1
     obtain ⟨rfl,rfl⟩:=e1
     rw[hb] at e2
     simp only[Option.some.injEq,Box.arr.injEq] at e2
     exact e2.2.2.2
   subst hm1
   obtain ⟨rfl,rfl⟩:=hs b ver ver t es 1 rfl hb
   obtain ⟨_,rfl⟩:=jb hx hb (Nat.beq_refl _)
   have hca:∀i j ct c u,AtU de src news i j ct c u→cy T w t src (θ b) i j ct c u:=by
    rintro i j ct c u ⟨row,h1,h2,h3,h4⟩
    rcases hnc with rfl|⟨a,rfl,hcell⟩
    ·simp at h1
    obtain ⟨d',A,cap,q1,q2,q3,q4⟩:=hw.box b _ hb
    rw[hde] at q1;obtain rfl:=Option.some.inj q1
    rw[hvx] at q2
    simp only[Value.slice.injEq] at q2
    obtain ⟨rfl,rfl,rfl⟩:=q2
    rcases q4 with ⟨q,_⟩|⟨g',o',cs,q1,_⟩
    ·simp at q
    ·simp only[Option.some.injEq] at q1
     subst q1
     refine ⟨de,g',o',_,_,row,hde,hvx,h1,h2,h3,?_⟩
     rw[←Addr.add_lit]
     exact hcell _ _ h4
   have hb1:nC T w t src (θ b):=(hw.lin b _ hb (by decide)).1 (by decide)
   refine ⟨⟨fun i j ct c u h=>hb1.rel _ _ _ _ _ (hca _ _ _ _ _ h),fun i j ct c u i' j' ct' c' u' k h1 h2=>hb1.dj _ _ _ _ _ _ _ _ _ _ k (hca _ _ _ _ _ h1) (hca _ _ _ _ _ h2)⟩,fun k ⟨i,j,ct,c,u,h1,h2⟩=>?_⟩
   have hin:InT T w (.sl t) (.l src) (θ b) k:=.sub _ _ _ _ _ _ _ _ _ (hca _ _ _ _ _ h1) h2
   refine ⟨?_,fun c=>rp hw hm hb hin c⟩
   rcases (hJ hw hb).2 k hin with a|a
   ·exact gK _ _ _ _ hm k a
   ·exact m1.sub _ ((hw.own b _ k hb ⟨by decide,a⟩).2.2.1 (by simp[Box.m]))
 ·exact ⟨[],false,_,h,F,hw,Mv.refl _ _ _ _,by simp⟩
theorem AN {X:Cx} (hT:TOk P X.T) (hw:WR X.T fr F w bx θ) {t:TypeId} {b:Nat} {s x:V} {vs vx:Value} (hs:aj X.T F w bx θ s vs) (hx:aj X.T F w bx θ x vx) {k:Eff→List Nat→R} {r:Out} (ty:TypeId)
  (h:qT X t b s x bx k=some r):Chg P X.T fr F w bx θ (Builtin.append_ #[t,t] ty #[vs,vx]) k r:=by
 unfold qT at h
 replace h:=kO h;obtain ⟨e,he,h⟩:=h
 replace h:=kO h;obtain ⟨de,hde,h⟩:=h
 replace h:=kS h;obtain ⟨c1,h⟩:=h
 rw[bnd] at h;obtain ⟨src,rd,h_,hsrc,hsr2⟩:=rP hT hw hde hx h;clear h;have h:=h_;clear h_
 have c1:=Nat.le_of_ble_eq_true c1
 have ht:=bV hT hde
 have hte:=fh hT he
 have hpos:=ht.pos
 obtain ⟨i,z,hi,hz,hsz,hb,hzc⟩:=ht.facts
 have hzs:z.cells.size=de.cts.length:=by simp[hzc]
 obtain ⟨B,c,news,rfl,hnl,hnr,hnc⟩:=hsrc
 have hn1:=hnr.one hpos hnl
 have hmx:=xo
 rw[bnd] at h;obtain ⟨K,q,rdk,h_,F1,hw1,m1,hlin⟩:=GW hw hx hde rfl hnc hsr2 h;clear h;have h:=h_;clear h_
 have hnr1:Rws (bX X.T F1 w) de src news:=hnr.mv m1.sub m1.heap
 split at h
 ·cases hs
  replace h:=kC h;obtain ⟨c2,h⟩:=h
  rw[bnd,jz] at h
  replace h:=kS h;obtain ⟨c4,h⟩:=h
  simp only[decide_eq_true_eq] at c2
  have c4:cJ (bN (bS K)) b=false:=by
   have:bD (b::bN (bS K))=true:=c4
   have:=by simpa [bD,aq,cF] using this
   exact this.1
  have hvv:∀y,dg bx (bS K) b=some y→y.ver<fy bx b:=fun y hy=>mP (by rw[om c4] at hy;exact hy)
  generalize hmd:sif (orS (bF de.cts) q) 1 0=md at*
  have hm2:¬2≤md:=by rw[←hmd];cases orS (bF de.cts) q<;>decide
  have hl2:md≠0→bF de.cts=true∨((([]:List (List C))≠[]→(0:Nat)=1)∧fR X.T w de src news∧∀k,fN X.T w de src news k→F1 k∧∀c,Fre fr X.T w (dg bx (bS K)) θ c k):=fun h0=>by
   rw[←hmd] at h0
   cases hf:bF de.cts with
   |true=>exact .inl rfl
   |false=>
    rw[hf] at h0
    cases q with
    |false=>exact absurd rfl h0
    |true=>exact .inr ⟨by simp,hlin rfl⟩
  by_cases h0:src=[]
  ·subst h0
   refine ⟨_,_,_,_,h,kz t ty e i hte hi none B 0 0 c (Nat.le_refl _),Aft.kill m1 (zj hw1 _ hde hvv)⟩
  ·obtain ⟨a,rfl,hcell⟩:=hnc.resolve_left h0
   have hlp:0<src.length:=List.length_pos_iff.2 h0
   have hby:=pc c2 c1
   rw[←hb] at hby
   have hrun:=run_append_nil (P:=P) w t ty e i z hte hi hz a src.length c news (by rw[hsz];exact hnl) hcell hlp (by omega) (by omega)
   obtain ⟨f1,f2,f3,f4,f5,f6⟩:=oQ w (.cells (news.toArray++Builtin.zeroCells z.cells (grownCap w src.length 0 e-src.length)) e)
   have g1:=grownCap_ge w src.length 0 e
   have g2:=grownCap_le_maxLen w src.length 0 e (by omega)
   refine ⟨_,_,_,_,h,hrun,Aft.kill m1 (yX hw1 hde hvv ?_ ⟨g1,g2⟩ f5 (fun k hk=>.inl (f6 k hk)) (.inl ⟨Nat.le_refl _,by omega⟩) (by omega) f1 f2 f3 hm2 ?_ fun h=>?_)⟩
   ·simp only[Array.size_append,List.size_toArray,size_zeroCells,hnl,hzs]
    rw[←Nat.add_mul];congr 1;omega
   ·intro hF
    have h1:=(Rws.app (Rws.nil de []) (by simp) hnr1 hnl (ws:=(Builtin.zeroCells z.cells (grownCap w src.length 0 e-src.length)).toList))
    simpa using h1.mv (fun _ h=>h) hF
   ·have:=Cj (b':=b) (e:=e) (m:=0) (m':=md) (es:=[]) (us:=[]) (ws:=(Builtin.zeroCells z.cells (grownCap w src.length 0 e-src.length)).toList) hw1 (by simp) (fun i j ct c u ⟨row,h1,_⟩=>by simp at h1) (by simp) hnl (Rws.nil de []) hnr1 hl2 h
    simpa using this
 ·rename_i b' ver
  replace h:=kR h;obtain ⟨y,hy,h⟩:=h
  split at h
  ·rename_i v' e' es m
   replace h:=kS h;obtain ⟨c2,h⟩:=h
   replace h:=kC h;obtain ⟨c3,h⟩:=h
   replace h:=kS h;obtain ⟨c4,h⟩:=h
   rw[aq,Bool.and_eq_true,aq,Bool.and_eq_true] at c2
   simp only[decide_eq_true_eq] at c3
   have c4:cJ (bN (bS K)) b'=false:=by
    have:bD (b'::bN (bS K))=true:=c4
    have:=by simpa [bD,aq,cF] using this
    exact this.1
   have e1:=Nat.eq_of_beq_eq_true c2.1.2;subst e1
   obtain ⟨rfl,rfl⟩:=jb hs hy c2.1.1
   generalize hmd:sif (orS (bF de.cts) (aA (Nat.beq m 1) q)) 1 0=md at*
   have hm2:¬2≤md:=by rw[←hmd];cases orS (bF de.cts) (aA (Nat.beq m 1) q)<;>decide
   obtain ⟨v,w',q1,q2⟩:=qo (ty:=ty) (c:=c) (m':=md) hT hw1 he hde c1 (by rw[om c4];exact hy) (jQ c2.2) hm2 (fun h0=>by
    rw[←hmd] at h0
    cases hf:bF de.cts with
    |true=>exact .inl rfl
    |false=>
     rw[hf] at h0
     cases hq:aA (Nat.beq m 1) q with
     |false=>rw[hq] at h0;exact absurd rfl h0
     |true=>
      rw[aq,Bool.and_eq_true] at hq
      exact .inr ⟨Nat.eq_of_beq_eq_true hq.1,hlin hq.2⟩) c3 hnl hnr1 hnc
   exact ⟨_,_,_,_,h,q1,Aft.kill m1 q2⟩
  ·exact (aD h).elim
 ·rename_i b' ver lo hi'
  replace h:=kR h;obtain ⟨y,hy,h⟩:=h
  split at h
  ·rename_i v' e' es m
   replace h:=kS h;obtain ⟨c2,h⟩:=h
   replace h:=kC h;obtain ⟨c4,h⟩:=h
   replace h:=kC h;obtain ⟨c3,h⟩:=h
   replace h:=kS h;obtain ⟨cK,h⟩:=h
   rw[aq,Bool.and_eq_true,aq,Bool.and_eq_true] at c2
   simp only[decide_eq_true_eq] at c3 c4
   have e1:=Nat.eq_of_beq_eq_true c2.1.2;subst e1
   have e2:=Nat.eq_of_beq_eq_true c2.1.1;subst e2
   obtain ⟨⟨hw2,m2⟩,A,n,c',hva⟩:=y6 hs hy (jQ c2.2) hde (vM de) c4 hw
   obtain ⟨v,w',q1,F3,θ3,q2,q3,q4⟩:=qo (ty:=ty) (c:=c) (m':=mF de) hT hw2 he hde c1 (ar _ _ _) (vM de).1 (vM de).1 (fun h=>.inl ((vM de).2 h)) c3 hnl hnr hnc
   rw[ar] at q1
   have hu:∀Y:Box,dg (upd bx b' (some (.arr (v'+1) e ((es.take hi'.toNat).drop lo.toNat) (mF de)))) [(b',Y)]=dg bx [(b',Y)]:=fun Y=>by
    funext k
    simp only[dg]
    by_cases hk:k=b'
    ·subst hk;rw[ar,ar]
    ·rw[aP _ _ hk,aP _ _ hk,aP _ _ hk]
   refine ⟨_,_,_,_,h,q1,F3,θ3,?_,?_,?_⟩
   ·have:=q2;rw[hu] at this;exact this
   ·have:=q3;rw[hu] at this;exact m2.trans this
   ·have:=q4;rw[hu] at this;exact this
  ·exact (aD h).elim
 ·exact (aD h).elim
theorem Rws.qu {d:TD} {es fs:List (List C)} {us vs:List Value} (h:Rws (bX T F w) d es us) (h':Rws (bX T F w) d fs vs) {lo:Nat} (hv:vs.length=fs.length*d.cts.length)
  (hl:lo+fs.length≤es.length) (hu:es.length*d.cts.length≤us.length):
  Rws (bX T F w) d (es.take lo++fs++es.drop (lo+fs.length)) (us.take (lo*d.cts.length)++vs++us.drop (lo*d.cts.length+vs.length)):=by
 have e1:lo*d.cts.length+vs.length≤us.length:=by
  have:=Nat.mul_le_mul_right d.cts.length hl
  rw[Nat.add_mul] at this;omega
 refine ⟨fun i c hc=>?_,fun i c j x ct v hc hx ht hv'=>?_⟩
 ·rw[ek hl] at hc
  split at hc
  ·exact h'.len _ _ hc
  ·exact h.len _ _ hc
 ·have hj:j<d.cts.length:=(List.getElem?_eq_some_iff.1 ht).1
  rw[ek hl] at hc
  rw[ek e1] at hv'
  split at hc
  ·rename_i hi
   have a1:lo*d.cts.length≤i*d.cts.length:=Nat.mul_le_mul_right _ hi.1
   have a2:=je hi.2 hj
   rw[Nat.add_mul] at a2
   rw[if_pos (by omega)] at hv'
   refine h'.rel (i-lo) c j x ct v hc hx ht ?_
   rw[show (i-lo)*d.cts.length+j=i*d.cts.length+j-lo*d.cts.length from by rw[Nat.sub_mul];omega]
   exact hv'
  ·rename_i hi
   have:¬(lo*d.cts.length≤i*d.cts.length+j∧i*d.cts.length+j<lo*d.cts.length+vs.length):=by
    rintro ⟨b1,b2⟩
    apply hi
    constructor
    ·rcases Nat.lt_or_ge i lo with hlt|hge
     ·have:=je hlt hj;omega
     ·exact hge
    ·rcases Nat.lt_or_ge i (lo+fs.length) with hlt|hge
     ·exact hlt
     ·have:=Nat.mul_le_mul_right d.cts.length hge
      rw[Nat.add_mul] at this;omega
   rw[if_neg this] at hv'
   exact h.rel i c j x ct v hc hx ht hv'
theorem C3 (hT:TOk P T) (hw:WR T fr F w bx θ) {t:TypeId} {x:V} {vx:Value} (hx:aj T F w bx θ x vx) {k:Eff→List Nat→R} {r:Out} (ty:TypeId)
  (h:sg T t x bx k=some r):Chg P T fr F w bx θ (Builtin.clear_ #[t] ty #[vx]) k r:=by
 unfold sg at h
 replace h:=kO h;obtain ⟨e,he,h⟩:=h
 replace h:=kO h;obtain ⟨de,hde,h⟩:=h
 have ht:=bV hT hde
 have hte:=fh hT he
 obtain ⟨i,z,hi,hz,hsz,hb,hzc⟩:=ht.facts
 split at h
 ·rename_i b ver lo hi'
  replace h:=kR h;obtain ⟨y,hy,h⟩:=h
  split at h
  ·rename_i v' e' es m
   replace h:=kS h;obtain ⟨h1,h⟩:=h
   simp only[aq,Bool.and_eq_true] at h1
   have hmn:=jQ h1.2
   have h1:=h1.1
   have e0:=Nat.eq_of_beq_eq_true h1.2;subst e0
   obtain ⟨rfl,d,A',c',hd',h0,hlh,hhi,rfl,hcc,hblk,_⟩:=qH hx hy h1.1
   rw[hde] at hd'
   obtain rfl:=Option.some.inj hd'
   have hbox:=kV hw hy hmn
   have hmx:=vM de
   have hno:∀ {w':World} {es':List (List C)} {v:Value} {k:Nat},¬(Box.arr v' e es' (mF de)).nst T w' v k:=fun h=>vI hde (hmx.2 h.1) h.2
   obtain ⟨A,cap,us,hth,hul,hrw,hA⟩:=jd hbox hde
   rcases Int.lt_or_eq_of_le hlh with hlt|rfl
   ·obtain ⟨g,og,e2,rfl⟩:=hblk hlt
    rcases hA with ⟨rfl,rfl,rfl⟩|⟨g',o',cs,rfl,q1,q2,q3,rfl⟩
    ·simp at hhi;omega
    ·rw[hth] at e2
     simp only[Value.slice.injEq,Option.some.injEq,Addr.mk.injEq,true_and,and_true] at e2
     obtain ⟨⟨rfl,rfl⟩,e2⟩:=e2
     have hn:(hi'-lo).toNat≠0:=by omega
     have hcs:cs.toList.length=cs.size:=by simp
     have hzl:(Builtin.zeroCells (de.cts.map bQ).toArray (hi'-lo).toNat).toList.length=(hi'-lo).toNat*de.cts.length:=by simp[Builtin.zeroCells]
     have hfit:o'+lo.toNat*de.cts.length+(hi'-lo).toNat*de.cts.length≤cs.size:=by
      rw[Nat.add_assoc,←Nat.add_mul,q2];exact Nat.add_le_add_left (Nat.mul_le_mul_right _ (by omega)) o'
     have hone:∀u∈(Builtin.zeroCells (de.cts.map bQ).toArray (hi'-lo).toNat).toList,u.oneCell'=true:=by
      have hm:=pS (T:=T) (F:=F) (w:=w) (d:=de) (hi'-lo).toNat ht.pos
      exact Rws.one (es:=List.replicate (hi'-lo).toNat (de.cts.map gj)) (vs:=(Builtin.zeroCells (de.cts.map bQ).toArray (hi'-lo).toNat).toList)
       (by simpa [Builtin.zeroCells,madeCells] using hm) ht.pos (by rw[hzl];simp)
     have hst:=run_storeCells_at P g' (o'+lo.toNat*de.cts.length) e (Builtin.zeroCells (de.cts.map bQ).toArray (hi'-lo).toNat).toList 0 cs w q1 (by rw[hzl];omega) hone
     simp only[Nat.add_zero] at hst
     have hdl:(cs.toList.drop o').length=cap*de.cts.length:=by rw[List.length_drop,hcs];omega
     have hfull:Rws (bX T F w) de es (cs.toList.drop o'):=hrw.pQ (by rw[List.take_take,Nat.min_self])
     have hm:=pS (T:=T) (F:=F) (w:=w) (d:=de) (hi'-lo).toNat ht.pos
     have hm':Rws (bX T F w) de (List.replicate (hi'-lo).toNat (de.cts.map gj)) (Builtin.zeroCells (de.cts.map bQ).toArray (hi'-lo).toNat).toList:=by
      simpa [Builtin.zeroCells,madeCells] using hm
     have hsp:=hfull.qu hm' (lo:=lo.toNat) (by rw[hzl];simp) (by simp;omega) (by rw[hdl];exact Nat.mul_le_mul_right _ q3.1)
     rw[List.length_replicate] at hsp
     obtain ⟨f1,f2,f3,f4⟩:=ie w g' (cs.toList.take (o'+lo.toNat*de.cts.length)++(Builtin.zeroCells (de.cts.map bQ).toArray (hi'-lo).toNat).toList++cs.toList.drop (o'+lo.toNat*de.cts.length+(Builtin.zeroCells (de.cts.map bQ).toArray (hi'-lo).toNat).toList.length)).toArray
     have hlen:(es.take lo.toNat++List.replicate (hi'-lo).toNat (de.cts.map gj)++es.drop (lo.toNat+(hi'-lo).toNat)).length=es.length:=by
      simp only[List.length_append,List.length_take,List.length_drop,List.length_replicate];omega
     have hput:=hw.put b (.arr v' e (es.take lo.toNat++List.replicate (hi'-lo).toNat (de.cts.map gj)++es.drop (lo.toNat+(hi'-lo).toNat)) (mF de)) (θ b)
      (w.setRow g' (cs.toList.take (o'+lo.toNat*de.cts.length)++(Builtin.zeroCells (de.cts.map bQ).toArray (hi'-lo).toNat).toList++cs.toList.drop (o'+lo.toNat*de.cts.length+(Builtin.zeroCells (de.cts.map bQ).toArray (hi'-lo).toNat).toList.length)).toArray)
      (fun z hz=>by
       rw[hy] at hz;obtain rfl:=Option.some.inj hz
       exact .inr ⟨rfl,⟨rfl,hlen.symm⟩,rfl,fun h=>absurd (Nat.le_of_eq (Eq.symm h)) hmx.1⟩)
      (fun q hq=>by
       by_cases hqg:q=g'
       ·subst hqg;exact .inr ⟨_,hy,rfl,by rw[hth];rfl⟩
       ·exact .inl (setRow_other w g' q _ hqg))
      (by omega) f1 f2 f3 (fun q hq=>.inr ⟨_,hy,rfl,hq⟩) (fun k=>hno) (by
       rw[hth]
       refine yE hde (setRow_heap w g' _ _ e _ q1) fun h0=>?_
       have h2:=sJ (hmx.2 h0) hsp
       rw[←fT _ _ _ _ (by omega)] at h2
       have h3:=h2.mv (w':=w.setRow g' (cs.toList.take (o'+lo.toNat*de.cts.length)++(Builtin.zeroCells (de.cts.map bQ).toArray (hi'-lo).toNat).toList++cs.toList.drop (o'+lo.toNat*de.cts.length+(Builtin.zeroCells (de.cts.map bQ).toArray (hi'-lo).toNat).toList.length)).toArray) fun k hk=>absurd hk (px (hmx.2 h0))
       simpa using h3)
      (fun m=>vF (o:=o') hde (by rw[ar,hth,hlen]) (setRow_heap w g' _ _ e _ q1)
       (by
         rw[List.size_toArray]
         simp only[List.length_append,List.length_take,List.length_drop,hzl,hcs];omega) (by rw[hlen];exact q3) (by
        have h2:=hsp.mv m.sub m.heap
        rw[←fT _ _ _ _ (by omega)] at h2
        simpa using Rws.cr hmx.1 h2))
     refine ⟨_,_,.tuple #[],_,h,?_,F,_,hput.1,hput.2,.tu [] [] rfl fun i x v h=>by simp at h⟩
     have hne:¬(hi'-lo).toNat=0:=hn
     generalize hnn:(hi'-lo).toNat=nn at*
     cases nn with
     |zero=>exact absurd rfl hn
     |succ nn=>
      simp only[Builtin.clear_,List.getElem?_toArray,List.getElem?_cons_zero]
      simp[run_underlying hte,ht.uW,ht.nd,hst]
   ·have e3:(lo-lo).toNat=0:=by omega
    have e4:es.take lo.toNat++List.replicate (lo-lo).toNat (de.cts.map gj)++es.drop (lo.toNat+(lo-lo).toNat)=es:=by
     rw[e3];simp
    rw[e4] at h
    have hput:=hw.put b (.arr v' e es (mF de)) (θ b) w (fun z hz=>by rw[hy] at hz;obtain rfl:=Option.some.inj hz;exact .inr ⟨rfl,⟨rfl,rfl⟩,rfl,fun h=>absurd (Nat.le_of_eq (Eq.symm h)) hmx.1⟩) (fun q hq=>.inl rfl) (Nat.le_refl _) rfl rfl ⟨rfl,Nat.le_refl _⟩
     (fun q hq=>.inr ⟨_,hy,rfl,hq⟩) (fun k=>hno) (fun h0=>(sy hbox hde (hmx.2 h0)).toM) (fun m=>by
      have:ic T F w bx θ b (.arr v' e es (mF de)):=hbox.mode hmx.1
      obtain ⟨d,A,cap,r1,r2,r3,r4⟩:=this
      exact ⟨d,A,cap,r1,by rw[ar];exact r2,r3,r4⟩)
    refine ⟨_,_,.tuple #[],w,h,?_,F,_,hput.1,hput.2,.tu [] [] rfl fun i x v h=>by simp at h⟩
    rw[e3]
    cases A'<;>simp[Builtin.clear_,run_underlying hte]
  ·exact (aD h).elim
 ·exact (aD h).elim
theorem xj:∀(ns:List Int) (l:List UInt8),ns.foldl (fun (r:ByteArray) n=>r.push (UInt8.ofNat n.toNat)) ⟨l.toArray⟩=⟨(l++ns.map fun n=>UInt8.ofNat n.toNat).toArray⟩
 |[],l=>by simp
 |n::r,l=>by
  have:(⟨l.toArray⟩:ByteArray).push (UInt8.ofNat n.toNat)=⟨(l++[UInt8.ofNat n.toNat]).toArray⟩:=by simp[ByteArray.push]
  simp only[List.foldl_cons,this,xj r,List.map_cons,List.append_assoc,List.cons_append,List.nil_append]
theorem DR (hT:TOk P T) (hw:WR T fr F w bx θ) {s d:TypeId} {x:V} {v:Value} (hx:aj T F w bx θ x v) {k:Eff→List Nat→R} {r:Out}
  (h:Cb T s d x bx k=some r):Reads P T F w bx θ (convert s d v) k r:=by
 unfold Cb at h
 cases hstr:isStr T d with
 |false=>rw[hstr,aR] at h;exact zf hT hx h
 |true=>
   rw[hstr,af] at h
   have hu:=qY hT hstr
   replace h:=kO h;obtain ⟨e,he,h⟩:=h
   replace h:=kO h;obtain ⟨de,hde,h⟩:=h
   replace h:=kS h;obtain ⟨c1,h⟩:=h
   rw[bnd] at h;obtain ⟨src,rd,h_,hsrc⟩:=pf hT hw hde hx h;clear h;have h:=h_;clear h_
   rw[dz] at h
   have ht:=bV hT hde
   have hdv:de.dv=.int .u8:=by
    unfold HV at c1
    split at c1
    ·assumption
    ·simp at c1
   have hcts:de.cts=[.int .u8]:=by have:=ht.leaf;rw[hdv] at this;exact this
   obtain ⟨u2,hu2,hv2⟩:=ht.desc
   rw[hdv] at hv2
   cases u2<;>simp[dM] at hv2
   subst hv2
   obtain ⟨A,c,news,rfl,hnl,hnr,hnc⟩:=hsrc
   simp only[hcts,List.length_singleton,Nat.mul_one] at hnl
   have hns:news=(src.map fun r=>(r.getD 0 .nil).I).map (Value.int .u8):=by
    apply List.ext_getElem?
    intro i
    rw[List.map_map,List.getElem?_map]
    by_cases hi:i<src.length
    ·have h1:src[i]?=some src[i]:=List.getElem?_eq_getElem hi
     have h2:news[i]?=some (news[i]'(by omega)):=List.getElem?_eq_getElem _
     have hl:=hnr.len i _ h1
     have h3:src[i][0]?=some (src[i].getD 0 .nil):=by
      rw[List.getD_eq_getElem?_getD,List.getElem?_eq_getElem (by rw[hl,hcts];exact Nat.one_pos)];rfl
     have hr:=hnr.rel i _ 0 _ (.int .u8) (news[i]'(by omega)) h1 h3 (by rw[hcts];rfl) (by rw[hcts,List.length_singleton,Nat.mul_one,Nat.add_zero];exact h2)
     rw[h1,h2]
     simp only[Option.map_some,Function.comp]
     generalize src[i].getD 0 C.nil=c0 at hr⊢
     generalize news[i]'(by omega)=v0 at hr⊢
     cases hr with
     |int _ n=>rfl
    ·rw[List.getElem?_eq_none (by omega),List.getElem?_eq_none (by omega)];rfl
   have hrun:∀a,(∀j u,news[j]?=some u→w.cell? (a.add j)=some u)→(Conv.bytesToString (.slice (some a) src.length c)).run P w=.ok (.string (ke src)) w:=by
    intro a hcell
    have hlc:=run_loadCells_list (P:=P) w a news hcell
    rw[hnl] at hlc
    rw[run_bytesToString (P:=P) w a src.length c (src.map fun r=>(r.getD 0 .nil).I) (by rw[hlc,hns])]
    have:=xj (src.map fun r=>(r.getD 0 .nil).I) []
    simp only[List.nil_append] at this
    rw[show ByteArray.empty=⟨([]:List UInt8).toArray⟩ from rfl,this,List.map_map]
    rfl
   refine ⟨_,_,.string (ke src),h,?_,.c _ _ _ (.str _)⟩
   rw[run_convert_bytes_string w s d e A src.length c (fh hT he) hu2 hu]
   rcases hnc with rfl|⟨a,rfl,hcell⟩
   ·cases A with
    |none=>rfl
    |some a=>exact hrun a (fun j u h=>by rw[List.length_eq_zero_iff.1 hnl] at h;simp at h)
   ·exact hrun a hcell
end
end Go.Ev
namespace Go.Ev
section
variable {P:Program} {T:Tys} {fr:Fr} {F:Nat→Prop} {w:World} {bx:Bxs} {θ:Nat→Value}
theorem BZ {t:TypeId} {es:List (List C)} {n off:Nat} {row:List C} {c':C} {v:Value} {i j:Nat} {ct:CT} {c:C} {u:Value} (hn:es[n]?=some row) (ho:off<row.length) (h:cy T w t (es.set n (aK (es.getD n []) off [c'])) v i j ct c u):
  (i=n∧j=off∧c=c')∨(¬(i=n∧j=off)∧cy T w t es v i j ct c u):=by
 obtain ⟨d,g,o,m,cap,cs,h1,rfl,h3,h4,h5,h6⟩:=h
 have hg:es.getD n []=row:=by rw[List.getD_eq_getElem?_getD,hn];rfl
 rw[hg,List.getElem?_set] at h3
 by_cases hi:n=i
 ·subst hi
  rw[if_pos rfl] at h3
  split at h3
  ·obtain rfl:=Option.some.inj h3
   unfold aK at h4
   rw[ek (by simp;omega)] at h4
   split at h4
   ·rename_i hj
    have hj0:j=off:=by have:=hj.2;simp at this;omega
    subst hj0
    simp at h4
    exact .inl ⟨rfl,rfl,h4.symm⟩
   ·rename_i hj
    refine .inr ⟨fun h=>hj ⟨by omega,by simp;omega⟩,d,g,o,m,cap,row,h1,rfl,hn,h4,h5,h6⟩
  ·simp at h3
 ·rw[if_neg hi] at h3
  exact .inr ⟨fun h=>hi h.1.symm,d,g,o,m,cap,cs,h1,rfl,h3,h4,h5,h6⟩
theorem x9 (θ:Nat→Value) (b:Nat):upd θ b (θ b)=θ:=by
 funext k
 by_cases h:k=b
 ·subst h;exact ar _ _ _
 ·exact aP _ _ h
theorem EF {e:TypeId} {de:TD} {es:List (List C)} {v:Value} {k:Nat} (hd:aV T e=some de) (hf:bF de.cts=true) (h:InT T w (.sl e) (.l es) v k):bA v=some k:=by
 cases h with
 |root=>rfl
 |sub _ _ _ i j ct c u _ h hk=>
  obtain ⟨d,g,o,n,cap,cs,h1,_,_,_,h5,_⟩:=h
  rw[hd] at h1;obtain rfl:=Option.some.inj h1
  have:=cQ hf _ _ h5
  rw[k7 hk] at this;simp at this
theorem yZ {e:TypeId} {v:Value} {k:Nat} (h:InT T w (.sl e) .nil v k):False:=by cases h
theorem Gb (hw:WR T fr F w bx θ) {b d ver off:Nat} {ix:Int} {e te:TypeId} {v:Value} {es:List (List C)} {dn:TD} (hx:aj T F w bx θ (.rf b ver ix off e) v) (hy:bx b=some (.arr ver te es 2)) (hdn:aV T e=some dn) (hfl:bF dn.cts=true) (hbd:b≠d):
  WR T fr F w (upd (upd bx b (some (.arr ver te (es.set ix.toNat (aK (es.getD ix.toNat []) off [.nil])) 3))) d (some (.arr (fy bx d) e ((es.getD ix.toNat []).getD off .nil).L 1))) (upd θ d v)∧
  Mv F w bx θ F w (upd (upd bx b (some (.arr ver te (es.set ix.toNat (aK (es.getD ix.toNat []) off [.nil])) 3))) d (some (.arr (fy bx d) e ((es.getD ix.toNat []).getD off .nil).L 1))) (upd θ d v):=by
 obtain ⟨_,db,g,o,cap,row,c0,hd,h0,hix,hes,hc0,hth,hoff,hcell,hrow,hgd,hat,hrel⟩:=Eg hw hx hy (Nat.beq_refl _)
 have hlin:nC T w te es (θ b):=(hw.lin b _ hy (by decide)).1 (by decide)
 have hro:off<row.length:=(List.getElem?_eq_some_iff.1 hc0).1
 have hbk:∀i j ct c u,cy T w te (es.set ix.toNat (aK (es.getD ix.toNat []) off [.nil])) (θ b) i j ct c u→(i=ix.toNat∧j=off∧c=.nil∧ct=.sl e)∨(¬(i=ix.toNat∧j=off)∧cy T w te es (θ b) i j ct c u):=fun i j ct c u h=>by
  rcases BZ hes hro h with ⟨rfl,rfl,rfl⟩|h1
  ·refine .inl ⟨rfl,rfl,rfl,?_⟩
   obtain ⟨d',g',o',m',cap',rw',p1,p2,p3,p4,p5,p6⟩:=h
   rw[hd] at p1;obtain rfl:=Option.some.inj p1
   rw[hoff] at p5
   exact (Option.some.inj p5).symm
  ·exact .inr h1
 have hns:∀k,(Box.arr ver te (es.set ix.toNat (aK (es.getD ix.toNat []) off [.nil])) 3).nst T w (θ b) k→(Box.arr ver te es 2).nst T w (θ b) k∧¬InT T w (.sl e) c0 v k:=by
  rintro k ⟨_,i,j,ct,c,u,h1,h2⟩
  rcases hbk _ _ _ _ _ h1 with ⟨_,_,rfl,rfl⟩|⟨hne,h1⟩
  ·exact (yZ h2).elim
  ·exact ⟨⟨by decide,i,j,ct,c,u,h1,h2⟩,fun hk=>hne (hlin.dj _ _ _ _ _ _ _ _ _ _ k h1 hat h2 hk)⟩
 have hput:=hw.Dc b (.arr ver te (es.set ix.toNat (aK (es.getD ix.toNat []) off [.nil])) 3) (θ b) w
  (fun z hz=>by rw[hy] at hz;obtain rfl:=Option.some.inj hz;exact .inr ⟨rfl,⟨rfl,by simp⟩,rfl,fun h=>absurd h (by simp[Box.m])⟩)
  (fun q _=>.inl rfl) (Nat.le_refl _) rfl rfl ⟨rfl,Nat.le_refl _⟩ (fun q hq=>.inr ⟨_,hy,rfl,hq⟩)
  (fun k hk=>by
   obtain ⟨h1,_⟩:=hns k hk
   obtain ⟨_,o2,_,_,_⟩:=hw.own b _ k hy h1
   exact ⟨fun _=>o2 (Nat.le_refl 2),fun h=>absurd (show 2≤3 by decide) h,pD hw hy h1⟩)
  (fun _=>⟨fun h=>absurd rfl h,fun _=>⟨fun i j ct c u h=>by
    rcases hbk _ _ _ _ _ h with ⟨_,_,rfl,rfl⟩|⟨_,h1⟩
    ·exact .inr trivial
    ·exact .inl (hlin.rel _ _ _ _ _ h1),fun i j ct c u i' j' ct' c' u' k h1 h2 h3 h4=>by
    rcases hbk _ _ _ _ _ h1 with ⟨_,_,rfl,rfl⟩|⟨_,a1⟩
    ·exact (yZ h3).elim
    ·rcases hbk _ _ _ _ _ h2 with ⟨_,_,rfl,rfl⟩|⟨_,a2⟩
     ·exact (yZ h4).elim
     ·exact hlin.dj _ _ _ _ _ _ _ _ _ _ k a1 a2 h3 h4⟩⟩)
  (fun _=>by
   obtain ⟨d2,A,cap2,hd2,hth2,hrl,hA⟩:=hw.box b _ hy
   rw[hd] at hd2;obtain rfl:=Option.some.inj hd2
   rcases hA with ⟨rfl,rfl,rfl⟩|⟨g',o',cs,rfl,hg,hsz,hcap,hrr⟩
   ·simp at hix
   refine ⟨db,_,cap2,hd,by rw[ar,hth2];simp,fun i c hc=>?_,.inr ⟨g',o',cs,rfl,hg,hsz,by simpa using hcap,fun i c j x ct u a1 a2 a3 a4=>?_⟩⟩
   ·rw[List.getElem?_set] at hc
    by_cases hi:ix.toNat=i
    ·rw[if_pos hi,if_pos (by omega)] at hc
     obtain rfl:=Option.some.inj hc
     have:es.getD ix.toNat []=row:=by rw[List.getD_eq_getElem?_getD,hes];rfl
     rw[this]
     unfold aK
     rw[dX (by simp;omega)];exact hrow
    ·rw[if_neg hi] at hc
     exact hrl _ _ hc
   ·have hca:cy T w te (es.set ix.toNat (aK (es.getD ix.toNat []) off [.nil])) (θ b) i j ct x u:=by
     rw[hth2]
     exact (cY hd hg).2 ⟨c,a1,a2,a3,by rw[List.getElem?_drop];simpa using a4⟩
    rcases hbk _ _ _ _ _ hca with ⟨_,_,rfl,rfl⟩|⟨_,h1⟩
    ·exact .inr trivial
    ·exact .inl (hlin.rel _ _ _ _ _ h1))
 rw[x9] at hput
 obtain ⟨hw1,m1⟩:=hput
 rw[hgd]
 have hblk:∀k,bA v=some k→InT T w (.sl e) c0 v k∧(Box.arr ver te es 2).nst T w (θ b) k:=fun k hk=>by
  have:InT T w (.sl e) c0 v k:=by
   cases hrel with
   |base _ _ _ _ hs=>rw[hs e rfl] at hk;simp[bA] at hk
   |sl=>simp only[bA,Option.some.injEq] at hk;subst hk;exact .root _ _ _ _ _ _
  exact ⟨this,by decide,_,_,_,_,_,hat,this⟩
 generalize hb1:upd bx b (some (.arr ver te (es.set ix.toNat (aK (es.getD ix.toNat []) off [.nil])) 3))=bx1 at*
 have hget:∀c z,bx1 c=some z→(c=b∧z=.arr ver te (es.set ix.toNat (aK (es.getD ix.toNat []) off [.nil])) 3)∨(c≠b∧bx c=some z):=by
  intro c z hz
  rw[←hb1] at hz
  by_cases hc:c=b
  ·subst hc;rw[ar] at hz;exact .inl ⟨rfl,(Option.some.inj hz).symm⟩
  ·rw[aP _ _ hc] at hz;exact .inr ⟨hc,hz⟩
 have hfree:∀k,bA v=some k→¬F k∧k<w.heap.size∧(fr.w0.heap.size≤k∨fr.wr k)∧(∀c z,bx1 c=some z→z.live=true→bA (θ c)≠some k)∧∀c z,bx1 c=some z→¬z.nst T w (θ c) k:=fun k hk=>by
  obtain ⟨h1,h2⟩:=hblk k hk
  obtain ⟨o1,o2,_,o4,o5⟩:=hw.own b _ k hy h2
  have hF:=o2 (Nat.le_refl 2)
  refine ⟨hF,o1,?_,fun c z hz hl hg=>?_,fun c z hz hn=>?_⟩
  ·rcases o4 with h|h|h
   ·exact .inl h
   ·exact .inr h
   ·exact absurd (hw.nlF k h) hF
  ·rcases hget c z hz with ⟨rfl,rfl⟩|⟨_,hz⟩
   ·exact o5 _ _ hy rfl hg
   ·exact o5 _ _ hz hl hg
  ·rcases hget c z hz with ⟨rfl,rfl⟩|⟨hne,hz⟩
   ·exact (hns k hn).2 h1
   ·exact hne (hw.odj c b z _ k hz hy hn h2)
 have hd1:∀z,bx1 d=some z→z.ver<fy bx d:=fun z hz=>by
  rcases hget d z hz with ⟨e1,_⟩|⟨_,hz⟩
  ·exact absurd e1.symm hbd
  ·exact mP hz
 have hbox:∀(F:Nat→Prop) (bx:Bxs) (θ:Nat→Value),θ d=v→ic T F w bx θ d (.arr (fy bx1 d) e c0.L 1):=fun F bx θ hθ=>by
  cases hrel with
  |base _ _ _ hb hs=>
   obtain hv:=hs e rfl
   have hL:c0.L=[]:=by
    rw[hv] at hb
    generalize hv':Value.slice none 0 0=v' at hb
    cases hb with
    |sl0=>rfl
    |sl _ _ _ _ _ _ _ _ hF=>exact hF.elim
   rw[hL]
   exact ⟨dn,none,0,hdn,hθ.trans hv,fun i c h=>by simp at h,.inl ⟨rfl,rfl,rfl⟩⟩
  |sl _ d' es' g' o' cap' arr hd' hg' hs' hc' hlen' hr' hn' hj'=>
   rw[hdn] at hd';obtain rfl:=Option.some.inj hd'
   refine ⟨dn,_,cap',hdn,hθ,hlen',.inr ⟨g',o',arr,rfl,hg',hs',hc',fun i c j x ct u a1 a2 a3 a4=>?_⟩⟩
   have:=hr' i j ct x u ((cY hdn hg').2 ⟨c,a1,a2,a3,by rw[List.getElem?_drop];simpa using a4⟩)
   show bX T F w ct x u
   have hfc:=cQ hfl _ _ a3
   cases this with
   |base _ _ _ h _=>exact h.flat hfc
   |sl=>simp[CT.flat] at hfc
 have hbox:∀(F:Nat→Prop) (bx':Bxs) (θ:Nat→Value),θ d=v→ic T F w bx' θ d (.arr (fy bx d) e c0.L 1):=fun F bx' θ hθ=>hbox F bx' θ hθ
 have mv:Mv F w bx1 θ F w (upd bx1 d (some (.arr (fy bx d) e c0.L 1))) (upd θ d v):=by
  refine ⟨fun _ h=>h,fun _ _=>rfl,fun c z hz=>?_⟩
  by_cases hc:c=d
  ·subst hc
   have:=hd1 z hz
   exact ⟨_,ar _ _ _,Nat.le_of_lt this,fun h=>absurd h (Nat.ne_of_lt this)⟩
  ·exact ⟨z,by rw[aP _ _ hc];exact hz,Nat.le_refl _,fun _=>⟨z.jF,aP _ _ hc,fun h=>⟨h,fun _ _ _ _ _ _ _ _ _ h=>h⟩⟩⟩
 have hflat:∀ {v' k},¬(Box.arr (fy bx d) e c0.L 1).nst T w v' k:=fun h=>by
  obtain ⟨_,i,j,ct,c,u,h1,h2⟩:=h
  obtain ⟨d',_,_,_,_,_,p1,_,_,_,p5,_⟩:=h1
  rw[hdn] at p1;obtain rfl:=Option.some.inj p1
  have:=cQ hfl _ _ p5
  rw[k7 h2] at this;simp at this
 have hget2:∀c z,upd bx1 d (some (.arr (fy bx d) e c0.L 1)) c=some z→(c=d∧z=.arr (fy bx d) e c0.L 1)∨(c≠d∧bx1 c=some z):=by
  intro c z hz
  by_cases hc:c=d
  ·subst hc;rw[ar] at hz;exact .inl ⟨rfl,(Option.some.inj hz).symm⟩
  ·rw[aP _ _ hc] at hz;exact .inr ⟨hc,hz⟩
 refine ⟨⟨?_,?_,?_,hw1.lt,hw1.keep,hw1.sub,hw1.new,pM hw1.stay mv,?_,?_,?_,hw1.nlF⟩,m1.trans mv⟩
 ·intro c z hz
  rcases hget2 c z hz with ⟨rfl,rfl⟩|⟨hne,hz⟩
  ·exact hbox _ _ _ (ar _ _ _)
  ·exact (hw1.box c z hz).mv mv (aP _ _ hne) (fun _ _=>rfl) fun _ _=>rfl
 ·intro c c' z z' k hz hz' hl hl' hk hk'
  rcases hget2 c z hz with ⟨e1,e2⟩|⟨hne,hz1⟩<;>rcases hget2 c' z' hz' with ⟨e3,e4⟩|⟨hne',hz2⟩
  ·rw[e1,e3]
  ·rw[e1,ar] at hk;rw[aP _ _ hne'] at hk'
   exact absurd hk' ((hfree k hk).2.2.2.1 c' z' hz2 hl')
  ·rw[e3,ar] at hk';rw[aP _ _ hne] at hk
   exact absurd hk ((hfree k hk').2.2.2.1 c z hz1 hl)
  ·rw[aP _ _ hne] at hk;rw[aP _ _ hne'] at hk'
   exact hw1.disj c c' z z' k hz1 hz2 hl hl' hk hk'
 ·intro c z k hz hl hk
  rcases hget2 c z hz with ⟨rfl,rfl⟩|⟨hne,hz⟩
  ·rw[ar] at hk
   obtain ⟨a1,a2,a3,_⟩:=hfree k hk
   exact ⟨a1,a2,a3⟩
  ·rw[aP _ _ hne] at hk
   exact hw1.out c z k hz hl hk
 ·intro c z hz
  rcases hget2 c z hz with ⟨rfl,rfl⟩|⟨hne,hz⟩
  ·exact fun _=>(sy (bx:=bx1) (ver:=fy bx c) (hbox F bx1 (upd θ c v) (ar _ _ _)) hdn hfl).toM
  ·rw[aP _ _ hne];exact hw1.lin c z hz
 ·intro c z k hz hk
  rcases hget2 c z hz with ⟨rfl,rfl⟩|⟨hne,hz⟩
  ·exact absurd hk hflat
  ·rw[aP _ _ hne] at hk
   obtain ⟨q1,q2,q3,q4,q5⟩:=hw1.own c z k hz hk
   refine ⟨q1,q2,q3,q4,fun c' z' hz' hl' hg'=>?_⟩
   rcases hget2 c' z' hz' with ⟨e1,e2⟩|⟨hne',hz'⟩
   ·rw[e1,ar] at hg'
    exact (hfree k hg').2.2.2.2 c z hz hk
   ·rw[aP _ _ hne'] at hg'
    exact q5 c' z' hz' hl' hg'
 ·intro c c' z z' k hz hz' hk hk'
  rcases hget2 c z hz with ⟨rfl,rfl⟩|⟨hne,hz⟩
  ·exact absurd hk hflat
  rcases hget2 c' z' hz' with ⟨rfl,rfl⟩|⟨hne',hz'⟩
  ·exact absurd hk' hflat
  rw[aP _ _ hne] at hk;rw[aP _ _ hne'] at hk'
  exact hw1.odj c c' z z' k hz hz' hk hk'
theorem Ix (f:Bxs) (d:Nat) (x y:Option Box):upd (upd f d x) d y=upd f d y:=by
 funext k
 by_cases h:k=d
 ·subst h;rw[ar,ar]
 ·rw[aP _ _ h,aP _ _ h,aP _ _ h]
theorem Bi {X:Cx} (hT:TOk P X.T) (hw:WR X.T fr F w bx θ) {t:TypeId} {d b ver off:Nat} {ix:Int} {e0:TypeId} {x:V} {vs vx:Value} (hs:aj X.T F w bx θ (.rf b ver ix off e0) vs) (hx:aj X.T F w bx θ x vx) {k:Eff→List Nat→R} {r:Out} (ty:TypeId)
  (h:uh X t d b ver ix off e0 x bx k=some r):Chg P X.T fr F w bx θ (Builtin.append_ #[t,t] ty #[vs,vx]) k r:=by
 unfold uh at h
 replace h:=kO h;obtain ⟨e,he,h⟩:=h
 replace h:=kO h;obtain ⟨de,hde,h⟩:=h
 replace h:=kS h;obtain ⟨c1,h⟩:=h
 rw[bnd] at h;obtain ⟨src,rd,h_,hsrc,hsr2⟩:=rP hT hw hde hx h;clear h;have h:=h_;clear h_
 have c1:=Nat.le_of_ble_eq_true c1
 obtain ⟨B,c,news,rfl,hnl,hnr,hnc⟩:=hsrc
 replace h:=kR h;obtain ⟨y,hy,h⟩:=h
 split at h
 ·rename_i v te es m
  replace h:=kS h;obtain ⟨c2,h⟩:=h
  replace h:=kC h;obtain ⟨c3,h⟩:=h
  rw[bnd,jz] at h
  simp only[aq,cF,Bool.and_eq_true,Bool.not_eq_true',decide_eq_true_eq] at c2 c3
  obtain ⟨⟨a1,a2⟩,⟨a3,a4⟩,a5⟩:=c2
  obtain rfl:=Nat.eq_of_beq_eq_true a1
  obtain rfl:=Nat.eq_of_beq_eq_true a2
  obtain rfl:=Nat.eq_of_beq_eq_true a3
  have hbd:b≠d:=by rintro rfl;rw[Nat.beq_refl] at a5;simp at a5
  obtain ⟨hw1,m1⟩:=Gb hw hs hy hde a4 hbd
  obtain ⟨v',w',q1,F',θ',q2,q3,q4⟩:=qo (ty:=ty) (c:=c) (m':=1) hT hw1 he hde c1 (ar _ _ _) (by decide) (by decide) (fun _=>.inl a4) c3 hnl hnr hnc
  rw[ar] at q1
  have hu:∀Y H Z:Box,dg (upd (upd bx b (some H)) d (some Z)) [(d,Y)]=dg bx [(b,H),(d,Y)]:=fun Y H Z=>Ix _ _ _ _
  rw[hu] at q2 q3 q4
  exact ⟨_,_,_,_,h,q1,F',θ',q2,m1.trans q3,q4⟩
 ·exact (aD h).elim
theorem uZ:∀ {ts:List CT} {cs:List C},oH ts cs=true→∀(j:Nat) (c:C) (ct:CT),cs[j]?=some c→ts[j]?=some ct→¬As ct c
 |[],_,_,j,c,ct,_,h=>by simp at h
 |_::_,[],_,j,c,ct,h,_=>by simp at h
 |t::ts,x::cs,hn,j,c,ct,hc,ht=>by
  have hr:oH ts cs=true∧¬As t x:=by
   cases t with
   |sl e=>cases x<;>first|exact ⟨hn,fun h=>h⟩|exact absurd hn (by simp[oH])
   |_=>exact ⟨hn,fun h=>h⟩
  cases j with
  |zero=>simp at hc ht;subst hc;subst ht;exact hr.2
  |succ j=>exact uZ hr.1 j c ct (by simpa using hc) (by simpa using ht)
theorem Bu (hT:TOk P T) (hw:WR T fr F w bx θ) {t:TypeId} {b2 v2 b ver off:Nat} {ix:Int} {nb:Bool} {v va:Value} (hx:aj T F w bx θ (.ow b2 v2) v) (ha:aj T F w bx θ (.pe b ver ix off nb) va)
  {k:Eff→List Nat→R} {r:Out} (h:ue T t b2 v2 b ver ix off nb bx k=some r):r7 P T fr F w bx θ (Instr.storeAt t va v) k r:=by
 unfold ue at h
 replace h:=kO h;obtain ⟨d,hd,h⟩:=h
 replace h:=kO h;obtain ⟨e,hdc,h⟩:=h
 replace h:=kO h;obtain ⟨dn,hdn,h⟩:=h
 replace h:=kR h;obtain ⟨y,hy,h⟩:=h
 have ht:=bV hT hd
 split at h
 ·rename_i v' te es m
  replace h:=kO h;obtain ⟨de,hde,h⟩:=h
  replace h:=kR h;obtain ⟨y2,hy2,h⟩:=h
  split at h
  ·rename_i v2' e2 rows m2
   replace h:=kS h;obtain ⟨c1,h⟩:=h
   replace h:=kS h;obtain ⟨c2,h⟩:=h
   replace h:=kS h;obtain ⟨c3,h⟩:=h
   replace h:=kC h;obtain ⟨c4,h⟩:=h
   replace h:=kC h;obtain ⟨c5,h⟩:=h
   simp only[aq,jw,cF,Bool.and_eq_true,Bool.or_eq_true,Bool.not_eq_true'] at c1 c2
   obtain ⟨⟨a1,a2⟩,a3,a4,a5⟩:=c1
   obtain ⟨hfl,hag,hbb⟩:=c2
   obtain rfl:=Nat.eq_of_beq_eq_true a4
   obtain rfl:=Nat.eq_of_beq_eq_true a5
   have hm:m=2∨m=3:=a3.imp Nat.eq_of_beq_eq_true Nat.eq_of_beq_eq_true
   have hm2:2≤m:=by rcases hm with rfl|rfl<;>decide
   have hm0:m≠0:=by rintro rfl;simp at hm2
   have hbd:b≠b2:=by rintro rfl;rw[Nat.beq_refl] at hbb;simp at hbb
   have hdl:d.cts=[.sl e]:=by
    unfold Hn at hdc
    split at hdc
    ·rename_i e' he;rw[he];rw[Option.some.inj hdc]
    ·simp at hdc
   have hoff:de.cts[off]?=some (.sl e):=by
    rw[lU] at c3
    cases hn:de.cts[off]? with
    |none=>rw[hn] at c3;simp at c3
    |some ct=>rw[hn] at c3;rw[fH c3]
   have hoff':off<de.cts.length:=(List.getElem?_eq_some_iff.1 hoff).1
   obtain ⟨rfl,rfl⟩:=jb hx hy2 a2
   obtain ⟨rfl,d',hd',hpe⟩:=qx ha hy a1
   rw[hde] at hd';obtain rfl:=Option.some.inj hd'
   obtain ⟨d2,A,cap,hd2,hth,hlen,hA⟩:=hw.box b _ hy
   rw[hde] at hd2;obtain rfl:=Option.some.inj hd2
   rcases hpe with ⟨hnb,hneg,rfl⟩|⟨h0,hlt',g0,og,cap',e1,rfl⟩
   ·rw[hnb] at c4
    simp only[af,decide_eq_true_eq] at c4
    omega
   rcases hA with ⟨rfl,rfl,rfl⟩|⟨g,o,cs,rfl,q1,q2,q3,q4⟩
   ·simp at hlt';omega
   rw[hth] at e1
   simp only[Value.slice.injEq,Option.some.injEq,Addr.mk.injEq,true_and,and_true] at e1
   obtain ⟨⟨rfl,rfl⟩,rfl⟩:=e1
   have hn:ix.toNat<es.length:=by omega
   have hfit:o+(ix.toNat*de.cts.length+de.cts.length)≤cs.size:=by
    have:=Nat.mul_le_mul_right de.cts.length (show ix.toNat+1≤cap from by omega)
    rw[Nat.succ_mul] at this
    omega
   obtain ⟨d3,A2,cap2,_,hth2,_,_⟩:=hw.box b2 _ hy2
   have hvc:(θ b2).cells= #[θ b2]∧(θ b2).oneCell'=true:=by rw[hth2];exact ⟨rfl,rfl⟩
   have hcells:(θ b2).cells.toList=[θ b2]:=by rw[hvc.1]
   have hrun:=ht.nF (off:=o+(ix.toNat*de.cts.length+off)) q1 (v:=θ b2) (by rw[hvc.1,hdl];rfl) (by rw[hcells];intro u hu;rw[List.mem_singleton.1 hu];exact hvc.2) (by rw[hdl];simp;omega)
   rw[hcells] at hrun
   generalize hes':es.set ix.toNat (aK (es.getD ix.toNat []) off [.l rows])=es' at*
   have hrel0:∀i j ct c u,cy T w te es (θ b) i j ct c u→il T w ct c u∨As ct c:=by
    rcases hm with rfl|rfl
    ·exact fun i j ct c u h=>.inl (((hw.lin b _ hy (by decide)).1 (by decide)).rel _ _ _ _ _ h)
    ·exact ((hw.lin b _ hy (by decide)).2 rfl).rel
   have hdj0:Eb T w te es (θ b):=by
    rcases hm with rfl|rfl
    ·exact ((hw.lin b _ hy (by decide)).1 (by decide)).dj
    ·exact ((hw.lin b _ hy (by decide)).2 rfl).dj
   have hown:∀q,Nst T w te es (θ b) q→q<w.heap.size∧¬F q∧(∀b' x',bx b'=some x'→x'.live=true→bA (θ b')≠some q):=fun q hq=>by
    obtain ⟨o1,o2,_,_,o5⟩:=hw.own b _ q hy ⟨hm0,hq⟩
    exact ⟨o1,o2 hm2,o5⟩
   obtain ⟨l1,_⟩:=hJ hw hy2
   have l2:∀q,InT T w (.sl e) (.l rows) (θ b2) q→bA (θ b2)=some q:=fun q hq=>EF hdn hfl hq
   have hcsl:cs.toList.length=cs.size:=by simp
   obtain ⟨f1,f2,f3,f4⟩:=ie w g (cs.toList.take (o+(ix.toNat*de.cts.length+off))++[θ b2]++cs.toList.drop (o+(ix.toNat*de.cts.length+off)+[θ b2].length)).toArray
   have hrow:=setRow_heap w g cs (cs.toList.take (o+(ix.toNat*de.cts.length+off))++[θ b2]++cs.toList.drop (o+(ix.toNat*de.cts.length+off)+[θ b2].length)).toArray te _ q1
   have hoth:=fun k hk=>setRow_other w g k (cs.toList.take (o+(ix.toNat*de.cts.length+off))++[θ b2]++cs.toList.drop (o+(ix.toNat*de.cts.length+off)+[θ b2].length)).toArray hk
   have hdr:(cs.toList.take (o+(ix.toNat*de.cts.length+off))++[θ b2]++cs.toList.drop (o+(ix.toNat*de.cts.length+off)+[θ b2].length)).toArray.toList.drop o=(cs.toList.drop o).take (ix.toNat*de.cts.length+off)++[θ b2]++(cs.toList.drop o).drop (ix.toNat*de.cts.length+off+[θ b2].length):=fT _ _ _ _ (by omega)
   have hsz':(cs.toList.take (o+(ix.toNat*de.cts.length+off))++[θ b2]++cs.toList.drop (o+(ix.toNat*de.cts.length+off)+[θ b2].length)).toArray.size=cs.size:=by
    rw[List.size_toArray,dX (by simp;omega)];simp
   generalize hcs':(cs.toList.take (o+(ix.toNat*de.cts.length+off))++[θ b2]++cs.toList.drop (o+(ix.toNat*de.cts.length+off)+[θ b2].length)).toArray=cs' at*
   generalize hww:w.setRow g cs'=w' at*
   have hdl3:(cs.toList.drop o).length=cap*de.cts.length:=by rw[List.length_drop,hcsl];omega
   have hbk:∀i j ct c u,cy T w' te es' (θ b) i j ct c u→(i=ix.toNat∧j=off∧c=.l rows∧ct=.sl e∧u=θ b2)∨(¬(i=ix.toNat∧j=off)∧cy T w te es (θ b) i j ct c u):=fun i j ct c u h=>by
    have hca:=h
    rw[hth] at hca
    have hat:=(cY hde hrow).1 hca
    rw[hdr,←hes'] at hat
    rcases rT hlen (by rw[hdl3];exact Nat.mul_le_mul_right _ q3.1) hn (by simp) (by simp;omega) hat with ⟨h1,h2,h3,h4,h5,h6⟩|⟨h1,h2⟩
    ·have hj:j=off:=by simp at h3;omega
     subst hj
     rw[Nat.sub_self] at h4 h5 h6
     rw[Nat.add_zero,hoff] at h4
     simp at h5 h6
     exact .inl ⟨h1,rfl,h5.symm,(Option.some.inj h4).symm,h6.symm⟩
    ·refine .inr ⟨fun h=>h2 ⟨h.1,by omega,by simp;omega⟩,?_⟩
     rw[hth]
     exact (cY hde q1).2 h1
   have hgr:∀q,Nst T w te es (θ b) q→q≠g:=fun q hq e=>(hown q hq).2.2 b _ hy rfl (by rw[hth,e];rfl)
   have hg2:∀q,bA (θ b2)=some q→q≠g:=fun q hq e=>hbd (hw.disj b b2 _ _ g hy hy2 rfl rfl (by rw[hth];rfl) (by rw[hq,e]))
   have hInT:∀i j ct c u,cy T w te es (θ b) i j ct c u→∀q,(InT T w ct c u q→w'.heap[q]?=w.heap[q]?):=fun i j ct c u h q hq=>hoth q (hgr q ⟨_,_,_,_,_,h,hq⟩)
   have hInT2:∀q,InT T w' (.sl e) (.l rows) (θ b2) q→InT T w (.sl e) (.l rows) (θ b2) q:=fun q hq=>hq.mv' fun q hq=>hoth q (hg2 q (l2 q hq))
   have hrel:∀i j ct c u,cy T w' te es' (θ b) i j ct c u→il T w' ct c u:=fun i j ct c u h=>by
    rcases hbk _ _ _ _ _ h with ⟨_,_,rfl,rfl,rfl⟩|⟨_,h1⟩
    ·exact l1.mv fun q hq=>hoth q (hg2 q (l2 q hq))
    ·rcases hrel0 _ _ _ _ _ h1 with h2|h2
     ·exact h2.mv fun q hq=>hInT _ _ _ _ _ h1 q hq
     ·exfalso
      obtain ⟨_,_,_,_,_,row,p1,_,p3,p4,p5,_⟩:=h
      rw[hde] at p1;obtain rfl:=Option.some.inj p1
      exact uZ (List.all_eq_true.1 c5 row (List.mem_of_getElem? p3)) j c ct p4 p5 h2
   have hdj:Eb T w' te es' (θ b):=by
    intro i j ct c u i' j' ct' c' u' q h1 h2 h3 h4
    rcases hbk _ _ _ _ _ h1 with ⟨e1,e2,e3,e4,e5⟩|⟨n1,a1⟩<;>rcases hbk _ _ _ _ _ h2 with ⟨e1',e2',e3',e4',e5'⟩|⟨n2,a2⟩
    ·exact ⟨by omega,by omega⟩
    ·exfalso
     subst e3;subst e4;subst e5
     have:=l2 q (hInT2 q h3)
     exact (hown q ⟨_,_,_,_,_,a2,h4.mv' (hInT _ _ _ _ _ a2)⟩).2.2 b2 _ hy2 rfl this
    ·exfalso
     subst e3';subst e4';subst e5'
     have:=l2 q (hInT2 q h4)
     exact (hown q ⟨_,_,_,_,_,a1,h3.mv' (hInT _ _ _ _ _ a1)⟩).2.2 b2 _ hy2 rfl this
    ·exact hdj0 _ _ _ _ _ _ _ _ _ _ q a1 a2 (h3.mv' (hInT _ _ _ _ _ a1)) (h4.mv' (hInT _ _ _ _ _ a2))
   have hput1:=hw.Dc b2 (.dead (v2'+1)) (θ b2) w
    (fun z hz=>by rw[hy2] at hz;obtain rfl:=Option.some.inj hz;exact .inl (Nat.lt_succ_self v2'))
    (fun q _=>.inl rfl) (Nat.le_refl _) rfl rfl ⟨rfl,Nat.le_refl _⟩ (fun q hq=>.inr ⟨_,hy2,rfl,hq⟩) (fun k hk=>hk.elim) trivial (fun _=>trivial)
   rw[x9] at hput1
   obtain ⟨hw1,m1⟩:=hput1
   have hy1:upd bx b2 (some (Box.dead (v2'+1))) b=some (.arr v' te es m):=by rw[aP _ _ hbd];exact hy
   have hput:=hw1.Dc b (.arr v' te es' 4) (θ b) w'
    (fun z hz=>by rw[hy1] at hz;obtain rfl:=Option.some.inj hz;exact .inr ⟨rfl,⟨rfl,by rw[←hes'];simp⟩,rfl,fun h=>absurd h (by simp[Box.m])⟩)
    (fun q hq=>by
     by_cases hqg:q=g
     ·subst hqg;exact .inr ⟨_,hy1,rfl,by rw[hth];rfl⟩
     ·exact .inl (hoth q hqg))
    (by omega) f1 f2 f3 (fun q hq=>.inr ⟨_,hy1,rfl,hq⟩)
    (fun q hq=>by
     obtain ⟨_,i,j,ct,c,u,h1,h2⟩:=hq
     have key:¬F q∧Fre fr T w (upd bx b2 (some (Box.dead (v2'+1)))) θ b q:=by
      rcases hbk _ _ _ _ _ h1 with ⟨_,_,rfl,rfl,rfl⟩|⟨_,a1⟩
      ·have hq2:=l2 q (hInT2 q h2)
       obtain ⟨o1,o2,o3⟩:=hw.out b2 _ q hy2 rfl hq2
       refine ⟨o1,o2,o3.imp id .inl,fun b' y' hb' hl hg'=>?_,fun b' y' _ hb' hk=>?_⟩
       ·by_cases hc:b'=b2
        ·subst hc;rw[ar] at hb';obtain rfl:=Option.some.inj hb';simp[Box.live] at hl
        ·rw[aP _ _ hc] at hb'
         exact hc (hw.disj b' b2 _ _ q hb' hy2 hl rfl hg' hq2)
       ·by_cases hc:b'=b2
        ·subst hc;rw[ar] at hb';obtain rfl:=Option.some.inj hb';exact hk.elim
        ·rw[aP _ _ hc] at hb'
         exact (hw.own b' y' q hb' hk).2.2.2.2 b2 _ hy2 rfl hq2
      ·have hn1:(Box.arr v' te es m).nst T w (θ b) q:=⟨hm0,_,_,_,_,_,a1,h2.mv' (hInT _ _ _ _ _ a1)⟩
       exact ⟨(hown q hn1.2).2.1,pD hw1 hy1 hn1⟩
     exact ⟨fun _=>key.1,fun h=>absurd (show 2≤4 by decide) h,key.2⟩)
    (fun _=>nC.toM ⟨hrel,hdj⟩)
    (fun mv=>by
     refine ⟨de,_,cap,hde,by rw[ar,hth,←hes',List.length_set],fun i c hc=>?_,.inr ⟨g,o,cs',rfl,hrow,by rw[hsz'];exact q2,by rw[←hes',List.length_set];exact q3,fun i c j x ct u a1 a2 a3 a4=>?_⟩⟩
     ·rw[←hes',List.getElem?_set] at hc
      by_cases hi:ix.toNat=i
      ·rw[if_pos hi,if_pos (by omega)] at hc
       obtain rfl:=Option.some.inj hc
       have hnn:es[ix.toNat]?=some es[ix.toNat]:=List.getElem?_eq_getElem hn
       have hr:=hlen _ _ hnn
       have:es.getD ix.toNat []=es[ix.toNat]:=by rw[List.getD_eq_getElem?_getD,hnn];rfl
       rw[this]
       unfold aK
       rw[dX (by simp;omega)];exact hr
      ·rw[if_neg hi] at hc
       exact hlen _ _ hc
     ·show il T w' ct x u
      refine hrel i j ct x u ?_
      rw[hth]
      exact (cY hde hrow).2 ⟨c,a1,a2,a3,by rw[List.getElem?_drop];simpa using a4⟩)
   rw[x9] at hput
   exact ⟨_,_,_,h,by simpa [Instr.storeAt,Instr.sureAddr] using hrun,F,θ,hput.1,m1.trans hput.2,.un _⟩
  ·exact (aD h).elim
 ·exact (aD h).elim
theorem EV (hT:TOk P T) (hw:WR T fr F w bx θ) {t:TypeId} {x:V} {v:Value} (hx:aj T F w bx θ x v) {y:V} {va:Value} (ha:aj T F w bx θ y va)
  {k:Eff→List Nat→R} {r:Out} (h:Dl T t x y bx k=some r):r7 P T fr F w bx θ (Instr.storeAt t va v) k r:=by
 unfold Dl at h
 split at h
 ·rename_i b2 v2 b ver ix off nb
  replace h:=kR h;obtain ⟨z,hz,h⟩:=h
  split at h
  ·rename_i v' te es m
   cases hm:Nat.ble 2 m with
   |true=>rw[hm,af] at h;obtain ⟨e,rd,w',h1,h2⟩:=Bu hT hw hx ha h;exact ⟨e,_,w',h1,h2⟩
   |false=>rw[hm,aR] at h;obtain ⟨e,rd,w',h1,h2⟩:=xH hT hw hx ha h;exact ⟨e,_,w',h1,h2⟩
  ·exact (aD h).elim
 ·exact xH hT hw hx ha h
theorem Ga {X:Cx} (hT:TOk P X.T) (hw:WR X.T fr F w bx θ) {t:TypeId} {b:Nat} {s x:V} {vs vx:Value} (hs:aj X.T F w bx θ s vs) (hx:aj X.T F w bx θ x vx) {k:Eff→List Nat→R} {r:Out} (ty:TypeId)
  (h:AY X t b s x bx k=some r):Chg P X.T fr F w bx θ (Builtin.append_ #[t,t] ty #[vs,vx]) k r:=by
 unfold AY at h
 split at h
 ·exact Bi hT hw hs hx ty h
 ·exact AN hT hw hs hx ty h
end
end Go.Ev
namespace Go.Ev
theorem BN (a:ByteArray):∀(n i:Nat) (r:List UInt8),n+i=a.size→ByteArray.toList.loop a i r=r.reverse++a.data.toList.drop i
 |0,i,r,h=>by
  have hi:i=a.size:=by omega
  subst hi
  unfold ByteArray.toList.loop
  rw[if_neg (Nat.lt_irrefl _)]
  have:a.data.toList.drop a.size=[]:=List.drop_of_length_le (by rw[Array.length_toList];exact Nat.le_refl _)
  rw[this,List.append_nil]
 |n+1,i,r,h=>by
  have hi:i<a.size:=by omega
  unfold ByteArray.toList.loop
  rw[if_pos hi,BN a n (i+1) (a.get! i::r) (by omega)]
  have hd:i<a.data.toList.length:=by rw[Array.length_toList];exact hi
  rw[List.drop_eq_getElem_cons hd,List.reverse_cons,List.append_assoc]
  congr 1
  show [a.get! i]++_=_
  have:a.get! i=a.data.toList[i]:=by
   show a.data[i]! =_
   rw[getElem!_pos a.data i hi,Array.getElem_toList]
  rw[this];rfl
theorem uf (a:ByteArray):a.toList=a.data.toList:=by
 have:=BN a a.size 0 [] (by omega)
 simpa [ByteArray.toList] using this
theorem Ht {a b:ByteArray} (h:a.toList=b.toList):a=b:=by
 rw[uf,uf] at h
 cases a;cases b
 simpa using h
theorem sh (a b:ByteArray):(a==b)=(a.toList==b.toList):=by
 have e:(a==b)=(a.data==b.data):=by cases a;cases b;rfl
 rw[e,uf,uf,Bool.eq_iff_iff]
 simp only[beq_iff_eq]
 exact ⟨fun h=>by rw[h],fun h=>Array.toList_inj.1 h⟩
theorem HG {a b:ByteArray} (h:(a==b)=true):a=b:=by
 rw[sh] at h
 exact Ht (by simpa using h)
theorem Hp (a:ByteArray):(a==a)=true:=by rw[sh];simp
theorem vR {d:TD} {ct:CT} (h:pY d=some ct):d.cts=[ct]∧((∃k,ct=.int k)∨ct=.bool∨ct=.str)∧d.agg=false:=by
 unfold pY at h
 split at h<;>rename_i h1 h2<;>first
  |(simp only[Option.some.injEq] at h;subst h;refine ⟨h2,?_,by simp[TD.agg,h1]⟩;simp)
  |simp at h
theorem Bh {d:TD} {ct:CT} (h:pY d=some ct):zeroOf d=bQ ct:=by
 obtain ⟨h1,_,h3⟩:=vR h
 unfold zeroOf
 rw[h3,h1];rfl
theorem BA {d:TD} {ct:CT} (h:pY d=some ct):gT ct (gj ct) (bQ ct):=by
 obtain ⟨_,h2,_⟩:=vR h
 rcases h2 with ⟨k,rfl⟩|rfl|rfl<;>rfl
theorem gT.DW {T:Tys} {F:Nat→Prop} {w:World} {ct:CT} {c:C} {v:Value} (h:gT ct c v):bX T F w ct c v:=by
 unfold gT at h
 split at h
 ·subst h;exact .int _ _
 ·subst h;exact .bool _
 ·subst h;exact .str _
 ·exact h.elim
theorem bX.gT {T:Tys} {F:Nat→Prop} {w:World} {d:TD} {ct:CT} {c:C} {v:Value} (hf:pY d=some ct) (h:bX T F w ct c v):Go.Ev.gT ct c v:=by
 obtain ⟨_,h2,_⟩:=vR hf
 rcases h2 with ⟨k,rfl⟩|rfl|rfl<;>cases h<;>rfl
theorem pz {ct:CT} (z:C) (k:ByteArray):∀ {es:List (List C)} {l:List MapEntry},jg ct es l→
  (mU k es=false∧kK z k es=z∧∀i,Instr.findNow .string (.string k) l i=some none)∨
  (mU k es=true∧∃j v k',j<l.length∧(l[j]?).map (·.key)=some (.string k')∧(k'==k)=true∧gT ct (kK z k es) v∧∀i,Instr.findNow .string (.string k) l i=some (some (i+j,v)))
 |_,_,.nil=>.inl ⟨rfl,rfl,fun i=>rfl⟩
 |_,_,.cons k' c e es l hk hv h=>by
  have e1:Instr.sameNow .string (.string k) e.key=some (k==k'):=by rw[hk];rfl
  cases hb:k==k' with
  |true=>
   have hb':(k.toList==k'.toList)=true:=by rw[←sh];exact hb
   refine .inr ⟨?_,0,e.val,k',by simp,by simp[hk],?_,?_,fun i=>?_⟩
   ·show cond (k.toList==k'.toList) true (mU k es)=true
    rw[hb'];rfl
   ·rw[HG hb];exact Hp _
   ·show gT ct (cond (k.toList==k'.toList) c (kK z k es)) e.val
    rw[hb'];exact hv
   ·simp only[Instr.findNow,e1,hb,Nat.add_zero]
  |false=>
   have hb':(k.toList==k'.toList)=false:=by rw[←sh];exact hb
   have m1:mU k ([.s k',c]::es)=mU k es:=by
    show cond (k.toList==k'.toList) true (mU k es)=mU k es
    rw[hb'];rfl
   have m2:kK z k ([.s k',c]::es)=kK z k es:=by
    show cond (k.toList==k'.toList) c (kK z k es)=kK z k es
    rw[hb'];rfl
   rw[m1,m2]
   rcases pz z k h with ⟨h1,h2,h3⟩|⟨h1,j,v,k2,h2,h3,h4,h5,h6⟩
   ·exact .inl ⟨h1,h2,fun i=>by simp only[Instr.findNow,e1,hb,h3]⟩
   ·exact .inr ⟨h1,j+1,v,k2,by simpa using h2,by simpa using h3,h4,h5,fun i=>by simp only[Instr.findNow,e1,hb,h6];congr 3;omega⟩
theorem xN {ct:CT} (k:ByteArray) {y:C} {u:Value} (hy:gT ct y u) (clock:Nat):∀ {es:List (List C)} {l:List MapEntry},jg ct es l→
  (mU k es=false→jg ct (lI k y es) (l++[{key:=.string k,val:=u,born:=clock}]))∧
  (mU k es=true→∀j v,(∀i,Instr.findNow .string (.string k) l i=some (some (i+j,v)))→jg ct (lI k y es) (l.modify j fun e=> {e with key:=.string k,val:=u}))
 |_,_,.nil=>⟨fun _=>.cons k y _ _ _ rfl hy .nil,fun h=>by simp[mU] at h⟩
 |_,_,.cons k' c e es l hk hv h=>by
  have e1:Instr.sameNow .string (.string k) e.key=some (k==k'):=by rw[hk];rfl
  obtain ⟨ih1,ih2⟩:=xN k hy clock h
  cases hb:k==k' with
  |true=>
   have hb':(k.toList==k'.toList)=true:=by rw[←sh];exact hb
   have m1:mU k ([.s k',c]::es)=true:=by
    show cond (k.toList==k'.toList) true (mU k es)=true
    rw[hb'];rfl
   have m2:lI k y ([.s k',c]::es)=[.s k,y]::es:=by
    show cond (k.toList==k'.toList) ([.s k,y]::es) ([.s k',c]::lI k y es)=_
    rw[hb'];rfl
   rw[m1,m2]
   refine ⟨fun h=>by simp at h,fun _ j v hf=>?_⟩
   have:=hf 0
   simp only[Instr.findNow,e1,hb,Option.some.injEq,Prod.mk.injEq] at this
   obtain rfl:j=0:=by omega
   exact .cons k y _ _ _ rfl hy h
  |false=>
   have hb':(k.toList==k'.toList)=false:=by rw[←sh];exact hb
   have m1:mU k ([.s k',c]::es)=mU k es:=by
    show cond (k.toList==k'.toList) true (mU k es)=mU k es
    rw[hb'];rfl
   have m2:lI k y ([.s k',c]::es)=[.s k',c]::lI k y es:=by
    show cond (k.toList==k'.toList) ([.s k,y]::es) ([.s k',c]::lI k y es)=_
    rw[hb'];rfl
   rw[m1,m2]
   refine ⟨fun h0=>.cons k' c e _ _ hk hv (ih1 h0),fun h0 j v hf=>?_⟩
   have h1:=hf 0
   simp only[Instr.findNow,e1,hb] at h1
   rcases pz y k h with ⟨q1,_,q3⟩|⟨q1,j2,v2,_,_,_,_,_,q6⟩
   ·rw[q1] at h0;cases h0
   ·rw[q6] at h1
    simp only[Option.some.injEq,Prod.mk.injEq] at h1
    obtain ⟨hj,rfl⟩:=h1
    obtain rfl:j=j2+1:=by omega
    exact .cons k' c e _ _ hk hv (ih2 h0 j2 v2 q6)
section
variable {P:Program} {X:Cx} {fr:Fr} {F:Nat→Prop} {w:World} {bx:Bxs} {θ:Nat→Value}
def MOk (P:Program) (l:List (Nat×Nat)):Prop:=∀t e,wc l t=some e→∃kt,P.underlying t=some (.map kt e)∧P.underlying kt=some .string
theorem yO {r clk:Nat} {arr:Array MapEntry} (h:w.heap[r]?=some (.map arr clk)):(getObj r).run P w=.ok (.map arr clk) w:=by simp[getObj,Sem.run,h]
theorem Dz {r clk:Nat} {arr:Array MapEntry} (h:w.heap[r]?=some (.map arr clk)) (o:Obj):(setObj r o).run P w=.ok () {w with heap:=w.heap.setIfInBounds r o}:=by simp[setObj,Sem.run,h]
theorem kF {kt:TypeId} (h:P.underlying kt=some .string) (e:Bool) (k:ByteArray) (w:World):(Instr.checkKey e 10000 kt (.string k)).run P w=.ok () w:=by
 show (Instr.checkKey e (9999+1) kt (.string k)).run P w=.ok () w
 unfold Instr.checkKey
 simp[run_underlying h]
theorem lS {kt:TypeId} (h:P.underlying kt=some .string) (k:ByteArray) {l:List MapEntry} {r:Option (Nat×Value)} (hf:Instr.findNow .string (.string k) l 0=some r) (w:World):
  (Instr.findKey kt (.string k) l).run P w=.ok r w:=by
 unfold Instr.findKey
 simp[run_underlying h,hf]
theorem wS {t kt et:TypeId} {d:TD} {ct:CT} (hm:P.underlying t=some (.map kt et)) (hk:P.underlying kt=some .string) (hd:kL P X.T et d) (hf:pY d=some ct) (k:ByteArray) (ok:Bool) {r clk:Nat} {arr:Array MapEntry} {es:List (List C)}
  (hh:w.heap[r]?=some (.map arr clk)) (hr:jg ct es arr.toList):
  ∃v,gT ct (kK (gj ct) k es) v∧(Instr.lookup t (.map (some r)) (.string k) ok).run P w=.ok (if ok then .tuple #[v,.bool (mU k es)] else v) w:=by
 have hz:(zeroValue et).run P w=.ok (bQ ct) w:=by rw[hd.uW,Bh hf]
 rcases pz (gj ct) k hr with ⟨h1,h2,h3⟩|⟨h1,j,v,k',h2,h3,h4,h5,h6⟩
 ·refine ⟨bQ ct,by rw[h2];exact BA hf,?_⟩
  unfold Instr.lookup
  simp[run_underlying hm,yO hh,kF hk,lS hk k (h3 0),hz,h1]
 ·refine ⟨v,h5,?_⟩
  have h6':=h6 0
  unfold Instr.lookup
  simp[run_underlying hm,yO hh,kF hk,lS hk k h6',h1]
theorem wP {t kt et:TypeId} {ct:CT} (hm:P.underlying t=some (.map kt et)) (hk:P.underlying kt=some .string) (k:ByteArray) {y:C} {u:Value} (hy:gT ct y u) {r clk:Nat} {arr:Array MapEntry} {es:List (List C)}
  (hh:w.heap[r]?=some (.map arr clk)) (hr:jg ct es arr.toList):
  ∃arr' clk',(Instr.mapUpdate t (.map (some r)) (.string k) u).run P w=.ok () {w with heap:=w.heap.setIfInBounds r (.map arr' clk')}∧jg ct (lI k y es) arr'.toList:=by
 obtain ⟨m1,m2⟩:=xN k hy clk hr
 rcases pz y k hr with ⟨h1,_,h3⟩|⟨h1,j,v,k',h2,h3,h4,_,h6⟩
 ·refine ⟨arr.push {key:=.string k,val:=u,born:=clk},clk+1,?_,by simpa using m1 h1⟩
  unfold Instr.mapUpdate
  simp[run_underlying hm,yO hh,kF hk,lS hk k (h3 0),Dz hh]
 ·have h6':=h6 0
  rw[Nat.zero_add] at h6'
  refine ⟨arr.modify j fun e=> {e with key:=.string k,val:=u},clk,?_,?_⟩
  ·have h3':(arr[j]?).map (·.key)=some (.string k'):=by simpa using h3
   have hkts:(Instr.keyThatStays (((arr[j]?).map (·.key)).getD (.string k)) (.string k)).run P w=.ok (.string k) w:=by
    rw[h3']
    have:Instr.sameBits 10000 (.string k') (.string k)=true:=by
     show Instr.sameBits (9999+1) (.string k') (.string k)=true
     unfold Instr.sameBits
     exact h4
    simp[Instr.keyThatStays,this]
   unfold Instr.mapUpdate
   simp[run_underlying hm,yO hh,kF hk,lS hk k h6',hkts,Dz hh]
  ·have:=m2 h1 j v (fun i=>h6 i)
   simpa [Array.toList_modify] using this
theorem BB (hT:TOk P X.T) (hM:MOk P X.mps) (hw:WR X.T fr F w bx θ) {t:TypeId} {m k:V} {vm vk:Value} {ok:Bool} (hm:aj X.T F w bx θ m vm) (hk:aj X.T F w bx θ k vk) {κ:Eff→List Nat→R} {r:Out}
  (h:uj X t m k ok bx κ=some r):Reads P X.T F w bx θ (Instr.lookup t vm vk ok) κ r:=by
 unfold uj at h
 split at h
 ·rename_i b ver key
  replace h:=kO h;obtain ⟨et,he,h⟩:=h
  replace h:=kO h;obtain ⟨d,hd,h⟩:=h
  replace h:=kO h;obtain ⟨ct,hct,h⟩:=h
  replace h:=kR h;obtain ⟨y,hy,h⟩:=h
  split at h
  ·rename_i v et' es
   replace h:=kS h;obtain ⟨c1,hκ⟩:=h
   rw[dz] at hκ
   rw[aq,Bool.and_eq_true] at c1
   have e1:=Nat.eq_of_beq_eq_true c1.1
   have e2:=Nat.eq_of_beq_eq_true c1.2
   subst e1;subst e2
   obtain ⟨q,arr,clk,d',ct',hth,hh,hd',hct',hrows⟩:=hw.box b _ hy
   rw[hd] at hd';obtain rfl:=Option.some.inj hd'
   rw[hct] at hct';obtain rfl:=Option.some.inj hct'
   obtain ⟨kt,hmt,hkt⟩:=hM _ _ he
   cases hm with
   |mp b ver vv x hb hv hs hp=>
    rw[hy] at hb;obtain rfl:=Option.some.inj hb
    obtain ⟨t2,es2,_,rfl⟩:=hp rfl
    cases hk with
    |c _ _ _ hc=>
     cases hc with
     |str s=>
      obtain ⟨u,hu,hrun⟩:=wS (X:=X) hmt hkt (bV hT hd) hct s ok hh hrows
      rw[←hth] at hrun
      refine ⟨_,_,_,hκ,hrun,?_⟩
      cases ok with
      |false=>exact .c _ _ _ hu.DW
      |true=>
       refine .tu [_,_] [_,_] rfl fun i x v h1 h2=>?_
       match i with
       |0=>simp at h1 h2;subst h1;subst h2;exact .c _ _ _ hu.DW
       |1=>simp at h1 h2;subst h1;subst h2;exact .c _ _ _ (.bool _)
       |i+2=>simp at h1
  ·exact (aD h).elim
 ·exact (aD h).elim
theorem zp (hw:WR X.T fr F w bx θ) {t:TypeId} {b:Nat} {κ:Eff→List Nat→R} {r:Out} (h:uT X t b bx κ=some r):Chg P X.T fr F w bx θ (Instr.makeMap t none) κ r:=by
 unfold uT at h
 replace h:=kO h;obtain ⟨et,he,h⟩:=h
 replace h:=kO h;obtain ⟨d,hd,h⟩:=h
 replace h:=kO h;obtain ⟨ct,hct,h⟩:=h
 rw[bnd,jz] at h
 obtain ⟨f1,f2,f3,f4⟩:=nA w (.map #[] 0)
 have:=hw.put b (.mp (fy bx b) et []) (.map (some w.heap.size)) (w.alloc (.map #[] 0)) (fun x hx=>.inl (mP hx))
  (fun k hk=>.inl (heap_alloc_old w _ hk)) (by omega) f1 f2 f3 (fun g hg=>by simp[bA] at hg;subst hg;exact .inl ⟨Nat.le_refl _,by omega⟩)
  (fun _ h=>h) trivial (fun m=>⟨w.heap.size,#[],0,d,ct,ar _ _ _,heap_alloc_new w _,hd,hct,.nil⟩)
 exact ⟨_,_,_,_,h,(show (Instr.makeMap t none).run P w=.ok (.map (some w.heap.size)) (w.alloc (.map #[] 0)) from rfl),F,_,this.1,this.2,.mp b _ _ _ (ar _ _ _) (Nat.le_refl _) ⟨_,rfl⟩ fun _=>⟨et,[],rfl,(ar _ _ _).symm⟩⟩
theorem wW (hT:TOk P X.T) (hM:MOk P X.mps) (hw:WR X.T fr F w bx θ) {t:TypeId} {m k y:V} {vm vk vy:Value} (hm:aj X.T F w bx θ m vm) (hk:aj X.T F w bx θ k vk) (hyv:aj X.T F w bx θ y vy) {κ:Eff→List Nat→R} {r:Out}
  (h:nu X t m k y bx κ=some r):∃e rd w',κ e rd=some r∧(Instr.mapUpdate t vm vk vy).run P w=.ok () w'∧Aft X.T fr F w bx θ e undef w':=by
 unfold nu at h
 split at h
 ·rename_i b ver key ct2 z
  replace h:=kO h;obtain ⟨et,he,h⟩:=h
  replace h:=kO h;obtain ⟨d,hd,h⟩:=h
  replace h:=kO h;obtain ⟨ct,hct,h⟩:=h
  replace h:=kR h;obtain ⟨x,hx,h⟩:=h
  split at h
  ·rename_i v et' es
   replace h:=kS h;obtain ⟨c1,hκ⟩:=h
   simp only[aq,Bool.and_eq_true] at c1
   have e1:=Nat.eq_of_beq_eq_true c1.1.1
   have e2:=Nat.eq_of_beq_eq_true c1.1.2
   have e3:=fH c1.2
   subst e1;subst e2;subst e3
   obtain ⟨q,arr,clk,d',ct',hth,hh,hd',hct',hrows⟩:=hw.box b _ hx
   rw[hd] at hd';obtain rfl:=Option.some.inj hd'
   rw[hct] at hct';obtain rfl:=Option.some.inj hct'
   obtain ⟨kt,hmt,hkt⟩:=hM _ _ he
   cases hm with
   |mp b ver vv x hb hv hs hp=>
    rw[hx] at hb;obtain rfl:=Option.some.inj hb
    obtain ⟨t2,es2,_,rfl⟩:=hp rfl
    cases hk with
    |c _ _ _ hc=>
     cases hc with
     |str s=>
      cases hyv with
      |c _ _ _ hcy=>
       obtain ⟨arr',clk',hrun,hrows'⟩:=wP (P:=P) (w:=w) hmt hkt s (bX.gT hct hcy) hh hrows
       rw[←hth] at hrun
       have hqlt:q<w.heap.size:=(Array.getElem?_eq_some_iff.1 hh).1
       have hput:=hw.put b (.mp v et (lI s z es)) (θ b) {w with heap:=w.heap.setIfInBounds q (.map arr' clk')}
        (fun x' hx'=>by rw[hx] at hx';obtain rfl:=Option.some.inj hx';exact .inr ⟨rfl,rfl,rfl,fun h=>by simp[Box.m] at h⟩)
        (fun g hg=>by
         by_cases hgq:g=q
         ·subst hgq;exact .inr ⟨_,hx,rfl,by rw[hth];rfl⟩
         ·left;show (w.heap.setIfInBounds q _)[g]?=_;rw[Array.getElem?_setIfInBounds,if_neg (fun h=>hgq h.symm)])
        (by show _≤(w.heap.setIfInBounds q _).size;simp) rfl rfl ⟨rfl,Nat.le_refl _⟩ (fun g hg=>.inr ⟨_,hx,rfl,hg⟩) (fun _ h=>h) trivial
        (fun mv=>⟨q,arr',clk',d,ct,by rw[ar];exact hth,by show (w.heap.setIfInBounds q _)[q]?=_;rw[Array.getElem?_setIfInBounds,if_pos rfl,if_pos hqlt],hd,hct,hrows'⟩)
       exact ⟨_,_,_,hκ,hrun,F,_,hput.1,hput.2,.un _⟩
  ·exact (aD h).elim
 ·exact (aD h).elim
end
end Go.Ev
namespace Go.Ev
structure aG (P:Program) (T:Tys) (f:FuncId) (fs:FS):Prop where
 fn:∃fn c,P.funcs[f]?=some fn∧fn.body=some c∧(fn.name== "runtime.NumGoroutine")=false
 calls:∀(w:World) (wr nl F0:Nat→Prop) (θ:Nat→Value) (xs ys:List C) (args:Array Value),
  WR T ⟨w,wr,F0,θ,fs.ip,nl⟩ F0 w (fs.inT.inj xs).bx θ→args.size=fs.n→(∀k,k<fs.n→aj T F0 w (fs.inT.inj xs).bx θ ((fs.inT.inj xs).sl k) (args.getD k undef))→fs.F xs=some ys→
  Calls P f args w fun e w'=>∃v F1 θ1,e=.returned v∧WR T ⟨w,wr,F0,θ,[],nl⟩ F1 w' (fs.outT.inj ys).bx θ1∧aj T F1 w' (fs.outT.inj ys).bx θ1 ((fs.outT.inj ys).sl 0) v∧
   ∀n x,n∈fs.ip→(fs.outT.inj ys).bx n=some x→θ1 n=θ n∧(x.m=2→Hdr w w' (θ n))
structure Env (P:Program) (X:Cx):Prop where
 T:TOk P X.T
 E:∀t e,dU X.T t=some e→(P.info? e).isSome=true
 Φ:∀f d fs,X.Φ f d=some fs→aG P X.T f fs
 Q:∀t,cJ X.eqT t=true→DZ P X.T t
 M:MOk P X.mps
 mixed:P.follows .mixedOrders=true
section
variable {P:Program} {X:Cx} {fr:Fr} {F:Nat→Prop} {w:World} {bx:Bxs} {θ:Nat→Value}
def Good (P:Program) (T:Tys) (fr:Fr) (F:Nat→Prop) (w:World) (bx:Bxs) (θ:Nat→Value) (o:Oper) (a:Act) (k:Eff→List Nat→R) (r:Out):Prop:=
 ∃e rd,k e rd=some r∧OpR P o a w fun v w'=>Aft T fr F w bx θ e v w'
theorem Chg.nx {T:Tys} {o:Oper} {a:Act} {s:Sem Value} {k:Eff→List Nat→R} {r:Out} (h:Chg P T fr F w bx θ s k r) (he:execOp a.eval o=(do pure (Next.value (←s)))):Good P T fr F w bx θ o a k r:=by
 obtain ⟨e,rd,v,w',h1,h2,h3⟩:=h
 exact ⟨e,rd,h1,OpR.value (v:=v) (w':=w') (by rw[he];simp[h2]) h3⟩
theorem Aft.same {T:Tys} (hw:WR T fr F w bx θ) {x:V} {v:Value} (h:aj T F w bx θ x v):Aft T fr F w bx θ ⟨x,[]⟩ v w:=⟨F,θ,hw,Mv.refl _ _ _ _,h⟩
theorem fC {T:Tys} (hw:WR T fr F w bx θ) {o:Oper} {a:Act} {k:Eff→List Nat→R} {r:Out} {x:V} {v:Value} {rd:List Nat} (hk:k ⟨x,[]⟩ rd=some r) (hr:aj T F w bx θ x v)
  (he:(execOp a.eval o).run P w=.ok (.value v) w):Good P T fr F w bx θ o a k r:=⟨_,rd,hk,OpR.value he (Aft.same hw hr)⟩
theorem nZ {T:Tys} {ρ:ca} {a:Act} (ho:∀x,aj T F w bx θ (bP ρ x) (a.eval x)):∀(l:List Operand),(l.map a.eval).length=(im ρ l).length∧
  ∀(i:Nat) (y:V) (u:Value),(im ρ l)[i]?=some y→(l.map a.eval)[i]?=some u→aj T F w bx θ y u
 |[]=>⟨rfl,fun i y u h=>by simp[im] at h⟩
 |x::r=>by
  obtain ⟨h1,h2⟩:=nZ ho r
  refine ⟨by simp[im,←h1],fun i y u a1 a2=>?_⟩
  cases i with
  |zero=>simp[im] at a1 a2;subst a1;subst a2;exact ho x
  |succ i=>exact h2 i y u (by simpa [im] using a1) (by simpa using a2)
theorem H8 {T:Tys} {ρ:ca} {a:Act} (ho:∀x,aj T F w bx θ (bP ρ x) (a.eval x)) (x:Option Operand):FV T F w bx θ (wx ρ x) (x.map a.eval):=by
 cases x with
 |none=>exact trivial
 |some x=>exact ho x
theorem zM {T:Tys} {x:V} {v:Value} (hx:aj T F w bx θ x v) {f:V→M Eff} {k:Eff→List Nat→R} {r:Out} (h:(do let p←xJ T x;f p:M Eff) bx k=some r):
  ∃x',aj T F w bx θ x' v∧f x' bx k=some r:=by
 have other:∀y:V,xJ T x=M.ret y→aj T F w bx θ y v→∃x',aj T F w bx θ x' v∧f x' bx k=some r:=fun y e hy=>by
  rw[e] at h
  exact ⟨y,hy,h⟩
 cases x with
 |c t y=>cases t with
  |pt e=>
   replace h:(do let p←(do let d←opt (aV T e);chk y.isP;M.ret (.fa d.cts y.P 0):M V);f p:M Eff) bx k=some r:=h
   cases hd:aV T e with
   |none=>rw[hd] at h;exact absurd (show (none:R)=some r from h) (by simp)
   |some d=>
    rw[hd] at h
    replace h:cond y.isP (f (.fa d.cts y.P 0) bx k) none=some r:=h
    cases hy:y.isP with
    |false=>rw[hy] at h;simp at h
    |true=>
     rw[hy] at h
     refine ⟨_,?_,h⟩
     cases hx with
     |c _ _ _ hr=>cases hr with
      |pt0=>simp[C.isP] at hy
      |pt _ d' cs g o cv hd' hF hlen hc hr=>
       rw[hd] at hd'
       obtain rfl:=Option.some.inj hd'
       exact .fa d.cts cs 0 g o cv hF hlen hc hr
  |_=>exact other _ rfl hx
 |_=>exact other _ rfl hx
theorem fe {bx:Bxs} {k:Eff→List Nat→R} {r:Out} (h:(M.fail:M Eff) bx k=some r):False:=aD h
theorem Cz (hX:Env P X) (hw:WR X.T fr F w bx θ) {ρ:ca} {a:Act} (ho:∀x,aj X.T F w bx θ (bP ρ x) (a.eval x)) {o:Oper} {k:Eff→List Nat→R} {r:Out}
  (hcall:∀c f,o.op=.call c→c.callee=.value f→j6 X o.dst ρ c bx k=some r→Good P X.T fr F w bx θ o a k r)
  (h:evalOp X o.dst ρ o.op bx k=some r):Good P X.T fr F w bx θ o a k r:=by
 obtain ⟨dst,op,type,pos,after,guard⟩:=o
 cases op with
 |move x=>exact fC hw h (ho x) (by simp[execOp])
 |assign x=>exact fC hw h (ho x) (by simp[execOp])
 |pick c x y=>
  simp only[evalOp] at h
  have hc:=ho c
  generalize bP ρ c=cz at h hc
  cases cz with
  |c t z=>cases t with
   |bool=>
    obtain ⟨u,rd,hk,hv,hr⟩:=E5 hc (ho x) (ho y) h
    exact fC hw hk hr (by simp[execOp,hv,asBool])
   |_=>exact (fe (bx:=bx) (k:=k) h).elim
  |_=>exact (fe (bx:=bx) (k:=k) h).elim
 |alloc t=>exact (CV hX.T hw h).nx (by simp[execOp])
 |box t x=>exact (Ft hX.T hw (ho x) h).nx (by simp[execOp])
 |build t ps=>exact ((C8 hX.T hw ho h).chg hw).nx (by simp[execOp])
 |buildSlice t n ps=>exact (uL hX.T hw ho h).nx (by simp[execOp])
 |load t x=>
  obtain ⟨x',hx',h⟩:=zM (ho x) h
  exact ((Hi hX.T hw hx' h).chg hw).nx (by simp[execOp])
 |store t x y=>
  obtain ⟨e,rd,w',h1,h2,h3⟩:=EV hX.T hw (ho y) (ho x) h
  exact ⟨e,rd,h1,OpR.skip (w':=w') (by simp[execOp,h2]) h3⟩
 |nilCheck x=>
  obtain ⟨y,rd,h1,h2,h3⟩:=y3 hX.T hw (ho x) h
  refine fC hw h1 h3 ?_
  rcases h2 with ⟨q,hq⟩|⟨f,c,hq⟩<;>simp[execOp,hq]
 |binOp op t x y e=>
  simp only[evalOp] at h
  have gen:CA X.T op t (bP ρ x) (bP ρ y) bx k=some r→Good P X.T fr F w bx θ ⟨dst,.binOp op t x y e,type,pos,after,guard⟩ a k r:=fun h=>((Fq hX.T hw (ho x) (ho y) h x y).chg hw).nx (by simp[execOp,eK])
  have h1:=ho x;have h2:=ho y
  generalize bP ρ x=vx at h h1 gen
  generalize bP ρ y=vy at h h2 gen
  cases vx with
  |ag l _=>cases vy with
   |ag m _=>exact ((F6 hX.Q hw h1 h2 h x y).chg hw).nx (by simp[execOp,eK])
   |_=>exact gen h
  |_=>exact gen h
 |unOp op t x=>
  simp only[evalOp] at h
  have hx:=ho x
  cases op with
  |not=>
   generalize hv:bP ρ x=cz at h hx
   cases cz with
   |c t z=>cases t with
    |bool=>exact fC hw h (qh _) (by simp[execOp,kN hx,Op.unary])
    |_=>exact (fe (bx:=bx) (k:=k) h).elim
   |_=>exact (fe (bx:=bx) (k:=k) h).elim
  |neg=>
   generalize hv:bP ρ x=cz at h hx
   cases cz with
   |c t z=>cases t with
    |int k1=>exact fC hw h (pT _ _) (by simp[execOp,qE hx,Op.unary,Op.intArith])
    |_=>exact (fe (bx:=bx) (k:=k) h).elim
   |_=>exact (fe (bx:=bx) (k:=k) h).elim
  |_=>exact (fe (bx:=bx) (k:=k) h).elim
 |convert s d x=>exact ((DR hX.T hw (ho x) h).chg hw).nx (by simp[execOp])
 |makeFunc fn first caps=>
  cases fn with
  |func f=>
   simp only[evalOp] at h
   replace h:=kS h;obtain ⟨c1,hk⟩:=h
   have hf:first= #[]:=by
    cases first with
    |mk l=>cases l with
     |nil=>rfl
     |cons=>simp[isNil] at c1
   subst hf
   obtain ⟨h1,h2⟩:=nZ ho caps.toList
   refine fC hw hk (.fn f (im ρ caps.toList) (caps.toList.map a.eval) h1 h2) (by
    have e:caps.map a.eval=(caps.toList.map a.eval).toArray:=by cases caps;simp
    simp[execOp,Instr.makeFunc,e])
  |_=>exact (fe (bx:=bx) (k:=k) h).elim
 |makeSlice t l c=>exact (wU hX.T hw (ho l) (ho c) h).nx (by simp[execOp])
 |slice t x lo hi mx=>
  simp only[evalOp] at h
  replace h:=kS h;obtain ⟨c1,hk⟩:=h
  cases mx with
  |some m=>simp[isNone] at c1
  |none=>exact ((Bn hX.T hX.E hw (ho x) (H8 ho lo) (H8 ho hi) hk).chg hw).nx (by simp[execOp])
 |fieldAddr s x f=>
  obtain ⟨x',hx',h⟩:=zM (ho x) h
  exact ((wX hX.T hx' h).chg hw).nx (by simp[execOp])
 |field s x f=>exact ((CM hX.T (ho x) h).chg hw).nx (by simp[execOp])
 |indexAddr t x i=>exact ((w8 hX.T hw (ho x) (ho i) h).chg hw).nx (by simp[execOp])
 |index t x i=>exact ((CB hX.T (ho x) (ho i) h).chg hw).nx (by simp[execOp])
 |makeMap t c=>
  cases c with
  |some c=>exact (fe (bx:=bx) (k:=k) h).elim
  |none=>exact (zp hw h).nx (by simp[execOp])
 |lookup t m y ok=>exact ((BB hX.T hX.M hw (ho m) (ho y) h).chg hw).nx (by simp[execOp])
 |mapUpdate t m y z=>
  obtain ⟨e,rd,w',h1,h2,h3⟩:=wW hX.T hX.M hw (ho m) (ho y) (ho z) h
  exact ⟨e,rd,h1,OpR.skip (w':=w') (by simp[execOp,h2]) h3⟩
 |extract x i=>
  simp only[evalOp] at h
  have hx:=ho x
  generalize bP ρ x=cz at h hx
  cases cz with
  |tu l=>
   have h2:(do rv (←opt (qO l i)):M Eff) bx k=some r:=h
   clear h;have h:=h2;clear h2
   replace h:=kO h;obtain ⟨y,hy,hk⟩:=h
   generalize hv:a.eval x=v at hx
   cases hx with
   |tu l vs hlen hr=>
    rw[lU] at hy
    have hi:i<vs.length:=by rw[hlen];exact (List.getElem?_eq_some_iff.1 hy).1
    refine fC hw hk (hr i y vs[i] hy (List.getElem?_eq_getElem hi)) ?_
    simp[execOp,hv,Instr.extract,hi]
  |_=>exact (fe (bx:=bx) (k:=k) h).elim
 |call c=>
  obtain ⟨callee,args,argTypes⟩:=c
  cases callee with
  |value f=>exact hcall _ f rfl rfl h
  |invoke _ _=>exact (fe (bx:=bx) (k:=k) h).elim
  |builtin b=>
   simp only[evalOp,j6] at h
   cases b with
   |len=>
    rcases hx:args.toList with _|⟨x,_|⟨y,l⟩⟩
    ·simp only[hx] at h;exact (fe (bx:=bx) (k:=k) h).elim
    ·rcases ht:argTypes.toList with _|⟨t,_|⟨t',l'⟩⟩
     ·simp only[hx,ht] at h;exact (fe (bx:=bx) (k:=k) h).elim
     ·simp only[hx,ht] at h
      refine ((F9 hX.T hw (ho x) h type).chg hw).nx ?_
      have e1:args= #[x]:=by simpa using congrArg List.toArray hx
      have e2:argTypes= #[t]:=by simpa using congrArg List.toArray ht
      subst e1;subst e2
      simp[execOp,resolve,invoke,builtin]
     ·simp only[hx,ht] at h;exact (fe (bx:=bx) (k:=k) h).elim
    ·simp only[hx] at h;exact (fe (bx:=bx) (k:=k) h).elim
   |append=>
    rcases hx:args.toList with _|⟨s,_|⟨x,_|⟨y,l⟩⟩⟩
    ·simp only[hx] at h;exact (fe (bx:=bx) (k:=k) h).elim
    ·simp only[hx] at h;exact (fe (bx:=bx) (k:=k) h).elim
    ·rcases ht:argTypes.toList with _|⟨t,_|⟨t',_|⟨t'',l'⟩⟩⟩
     ·simp only[hx,ht] at h;exact (fe (bx:=bx) (k:=k) h).elim
     ·simp only[hx,ht] at h;exact (fe (bx:=bx) (k:=k) h).elim
     ·simp only[hx,ht] at h
      replace h:=kS h;obtain ⟨c1,hk⟩:=h
      have e0:=Nat.eq_of_beq_eq_true c1;subst e0
      refine (Ga hX.T hw (ho s) (ho x) type hk).nx ?_
      have e1:args= #[s,x]:=by simpa using congrArg List.toArray hx
      have e2:argTypes= #[t,t]:=by simpa using congrArg List.toArray ht
      subst e1;subst e2
      simp[execOp,resolve,invoke,builtin]
     ·simp only[hx,ht] at h;exact (fe (bx:=bx) (k:=k) h).elim
    ·simp only[hx] at h;exact (fe (bx:=bx) (k:=k) h).elim
   |clear=>
    rcases hx:args.toList with _|⟨x,_|⟨y,l⟩⟩
    ·simp only[hx] at h;exact (fe (bx:=bx) (k:=k) h).elim
    ·rcases ht:argTypes.toList with _|⟨t,_|⟨t',l'⟩⟩
     ·simp only[hx,ht] at h;exact (fe (bx:=bx) (k:=k) h).elim
     ·simp only[hx,ht] at h
      refine (C3 hX.T hw (ho x) type h).nx ?_
      have e1:args= #[x]:=by simpa using congrArg List.toArray hx
      have e2:argTypes= #[t]:=by simpa using congrArg List.toArray ht
      subst e1;subst e2
      simp[execOp,resolve,invoke,builtin]
     ·simp only[hx,ht] at h;exact (fe (bx:=bx) (k:=k) h).elim
    ·simp only[hx] at h;exact (fe (bx:=bx) (k:=k) h).elim
   |min=>
    simp only at h
    cases hargs:args.toList with
    |nil=>rw[hargs] at h;exact (fe (bx:=bx) (k:=k) h).elim
    |cons x xs=>
     rw[hargs] at h
     obtain ⟨h1,h2⟩:=nZ ho xs
     obtain ⟨y,rd,u,g1,g2,g3⟩:=Dy (P:=P) false (im ρ xs) (xs.map a.eval) _ _ (ho x) h1 h2 h
     refine fC hw g1 g3 ?_
     have e1:args=(x::xs).toArray:=by simpa using congrArg List.toArray hargs
     subst e1
     simp at g2
     simp[execOp,resolve,invoke,builtin,Builtin.min_,g2]
   |max=>
    simp only at h
    cases hargs:args.toList with
    |nil=>rw[hargs] at h;exact (fe (bx:=bx) (k:=k) h).elim
    |cons x xs=>
     rw[hargs] at h
     obtain ⟨h1,h2⟩:=nZ ho xs
     obtain ⟨y,rd,u,g1,g2,g3⟩:=Dy (P:=P) true (im ρ xs) (xs.map a.eval) _ _ (ho x) h1 h2 h
     refine fC hw g1 g3 ?_
     have e1:args=(x::xs).toArray:=by simpa using congrArg List.toArray hargs
     subst e1
     simp at g2
     simp[execOp,resolve,invoke,builtin,Builtin.max_,g2]
   |_=>exact (fe (bx:=bx) (k:=k) h).elim
 |_=>exact (fe (bx:=bx) (k:=k) h).elim
end
end Go.Ev
namespace Go.Ev
structure Ex.le (e e':Ex):Prop where
 xs:∃pre,e'.xs=pre++e.xs
 r:∀n b,e.r.find n=some b→e'.r.find n=some b
 fz:∀b,b∈e.fz→b∈e'.fz
theorem Ex.le_refl (e:Ex):e.le e:=⟨⟨[],rfl⟩,fun _ _ h=>h,fun _ h=>h⟩
theorem Ex.le.le_trans {a b c:Ex} (h:a.le b) (h':b.le c):a.le c:=by
 obtain ⟨p,hp⟩:=h.xs
 obtain ⟨q,hq⟩:=h'.xs
 exact ⟨⟨q++p,by rw[hq,hp,List.append_assoc]⟩,fun n b x=>h'.r n b (h.r n b x),fun b x=>h'.fz b (h.fz b x)⟩
theorem Ex.push (e:Ex) (x:C):e.le ⟨x::e.xs,e.r,e.fz⟩:=⟨⟨[x],rfl⟩,fun _ _ h=>h,fun _ h=>h⟩
theorem Ex.xD (e:Ex) (x:C) (b:Nat):e.le ⟨x::e.xs,e.r,b::e.fz⟩:=⟨⟨[x],rfl⟩,fun _ _ h=>h,fun _ h=>List.mem_cons_of_mem _ h⟩
theorem GO {a b:Option Nat} (h:onb a b=true):a=b:=by
 cases a<;>cases b<;>simp[onb] at h<;>first|rfl|(rw[h])
theorem iL (n m:Nat) (b:Option Nat) (r:Ren):Ren.find ((n,b)::r) m=if n=m then some b else Ren.find r m:=by
 by_cases h:n=m
 ·subst h;simp[Ren.find,sif]
 ·have:Nat.beq n m=false:=by
   cases hb:Nat.beq n m with
   |false=>rfl
   |true=>exact absurd (Nat.eq_of_beq_eq_true hb) h
  simp[Ren.find,this,sif,h]
theorem me {e e':Ex} {n:Nat} {b:Option Nat} (h:e.put n b=some e'):e.le e'∧e'.r.find n=some b∧e'.xs=e.xs∧e'.fz=e.fz:=by
 unfold Ex.put at h
 split at h
 ·rename_i r hr
  simp only[Option.some.injEq] at h
  subst h
  unfold Ren.put at hr
  split at hr
  ·rename_i hn
   simp only[Option.some.injEq] at hr
   subst hr
   refine ⟨⟨⟨[],rfl⟩,fun m c hm=>?_,fun _ h=>h⟩,by simp[iL],rfl,rfl⟩
   simp only[iL]
   split
   ·rename_i e;subst e;rw[hn] at hm;simp at hm
   ·exact hm
  ·rename_i b' hb
   cases ho:onb b' b with
   |false=>simp[ho,sif] at hr
   |true=>
    simp[ho,sif] at hr
    subst hr
    have:=GO ho;subst this
    exact ⟨Ex.le_refl _,hb,rfl,rfl⟩
 ·simp at h
theorem fp {xs l:List C} {x:C} (h:∃pre,xs=pre++(x::l)):xs.reverse.getD l.length .nil=x:=by
 obtain ⟨pre,rfl⟩:=h
 simp[List.getD_eq_getElem?_getD]
theorem jx {bx:Bxs} {b ver:Nat} {t:TypeId} {es:List (List C)} (h:cU bx b ver=some (t,es)):∃m,bx b=some (.arr ver t es m)∧m≠3:=by
 unfold cU at h
 split at h
 ·rename_i v t' es' m hb
  cases hv:aA (Nat.beq v ver) (dA (Nat.beq m 3)) with
  |false=>simp[hv,sif] at h
  |true=>
   simp[hv,sif] at h
   obtain ⟨rfl,rfl⟩:=h
   rw[aq,Bool.and_eq_true] at hv
   refine ⟨m,by rw[hb,Nat.eq_of_beq_eq_true hv.1],?_⟩
   rintro rfl
   simp[dA] at hv
 ·simp at h
structure Fin (T:Tys) (F:Nat→Prop) (w:World) (bx:Bxs) (θ:Nat→Value) (F':Nat→Prop) (bx':Bxs) (θ':Nat→Value) (l:List (Nat×BSk)) (ef:Ex):Prop where
 F:∀k,F k→F' k
 fzF:∀b,b∈ef.fz→∀x,bx b=some x→x.live=true→∀g,bA (θ b)=some g→F' g
 fz:∀b,b∈ef.fz→∀ver t es m,bx b=some (.arr ver t es m)→m≠3→bX T F' w (.sl t) (.l es) (θ b)
 nm:∀n b,bC l n=true→ef.r.find n=some (some b)→∃x x',bx b=some x∧bx' n=some x'∧x'.ver=0∧x.same x'∧θ' n=θ b
 no:∀n,bC l n=true→ef.r.find n=some none→∃t m,bx' n=some (.arr 0 t [] m)∧θ' n=.slice none 0 0
section
variable {T:Tys} {F F':Nat→Prop} {w:World} {bx bx':Bxs} {θ θ':Nat→Value} {l:List (Nat×BSk)}
def HJ (T:Tys) (F:Nat→Prop) (w:World) (bx:Bxs) (θ:Nat→Value) (l:List (Nat×BSk)) (k:Sk) (val:Value) (e e':Ex):Prop:=
 e.le e'∧(∀nm xs,(k.inst nm xs e.xs.length).2=e'.xs.length)∧
 ∀ef,e'.le ef→k.named l=true→∀F' bx' θ',Fin T F w bx θ F' bx' θ' l ef→aj T F' w bx' θ' (k.inst nm0 ef.xs.reverse e.xs.length).1 val
theorem bu (nm:Nm) (xs:List C):∀(ks:List Sk) (p:Nat),(Sk.insts nm xs ks p).1.length=ks.length
 |[],_=>rfl
 |k::r,p=>by simp[Sk.insts,bu nm xs r]
theorem vZ:∀ {a b:List CT},nS a b=true→a=b
 |[],[],_=>rfl
 |[],_::_,h=>by simp[nS] at h
 |_::_,[],h=>by simp[nS] at h
 |a::r,b::r',h=>by
  simp only[nS,aq,Bool.and_eq_true] at h
  rw[fH h.1,vZ h.2]
theorem CK {t:TypeId} {d:TD} {es:List (List C)} {lo hi:Int} {A:Option Addr} {c:Nat} {v:Value} (hd:aV T t=some d) (h0:0≤lo) (h1:lo≤hi) (h2:hi≤es.length)
  (hcc:(hi-lo).toNat≤c) (hA:lo<hi→∃g o,v=.slice (some ⟨g,o,none⟩) es.length (c+lo.toNat)∧A=some ⟨g,o+lo.toNat*d.cts.length,none⟩) (h:bX T F w (.sl t) (.l es) v):
  bX T F w (.sl t) (.l ((es.take hi.toNat).drop lo.toNat)) (.slice A (hi-lo).toNat c):=by
 have hl:((es.take hi.toNat).drop lo.toNat).length=(hi-lo).toNat:=by
  rw[List.length_drop,List.length_take];omega
 rcases Int.lt_or_eq_of_le h1 with hlt|rfl
 ·obtain ⟨g,og,hv,rfl⟩:=hA hlt
  subst hv
  generalize hz:Value.slice (some ⟨g,og,none⟩) es.length (c+lo.toNat)=z at h
  cases h with
  |sl0=>simp at h2;omega
  |sl _ d' _ g' o' cap' cv hd' hF hcap hlen hc hr=>
   simp only[Value.slice.injEq,Option.some.injEq,Addr.mk.injEq] at hz
   obtain ⟨⟨rfl,rfl,_⟩,_,_⟩:=hz
   rw[hd] at hd'
   obtain rfl:=Option.some.inj hd'
   have key:∀(i:Nat) (cs:List C),((es.take hi.toNat).drop lo.toNat)[i]?=some cs→es[lo.toNat+i]?=some cs:=by
    intro i cs h
    rw[List.getElem?_drop,List.getElem?_take] at h
    split at h
    ·exact h
    ·simp at h
   rw[←hl]
   refine .sl t d _ g (og+lo.toNat*d.cts.length) c (fun i j=>cv (lo.toNat+i) j) hd hF (by omega) (fun i cs h=>hlen _ _ (key i cs h)) (fun i cs j x a1 a2=>?_) fun i cs j x ct a1 a2 a3=>hr _ _ _ _ _ (key i cs a1) a2 a3
   have:=hc _ _ _ _ (key i cs a1) a2
   rw[←this]
   congr 2
   rw[Nat.add_mul];omega
 ·have e1:(es.take lo.toNat).drop lo.toNat=[]:=by simp
  have e2:(lo-lo).toNat=0:=by omega
  rw[e1,e2]
  exact .sl0 _ _ _
def KnT (T:Tys) (bx:Bxs):Prop:=∀(b v:Nat) (t:TypeId) (es:List (List C)) (m:Nat),bx b=some (.arr v t es m)→∃d,aV T t=some d
def KnB (T:Tys) (F:Nat→Prop) (w:World) (bx:Bxs) (θ:Nat→Value):Prop:=∀(b:Nat) (x:Box),bx b=some x→ic T F w bx θ b x
theorem KnB.knT (hK:KnB T F w bx θ):KnT T bx:=fun b v t es m hb=>by
 obtain ⟨d,A,cap,hd,_⟩:=hK b _ hb
 exact ⟨d,hd⟩
theorem D3 {t:CT} {x:V} {v:Value} {c:C} {f:List Nat} (h:uR bx t x=some (c,f)) (hr:aj T F w bx θ x v) (hF:∀k,F k→F' k)
  (hz:∀b,b∈f→∀ver t es m,bx b=some (.arr ver t es m)→m≠3→bX T F' w (.sl t) (.l es) (θ b)):bX T F' w t c v:=by
 cases hr with
 |c t' x v hr=>
  replace h:sif (ia t t') (some (x,([]:List Nat))) none=some (c,f):=by cases t<;>exact h
  cases hc:ia t t' with
  |false=>simp[hc,sif] at h
  |true=>
   simp[hc,sif] at h
   have:=fH hc;subst this
   obtain ⟨rfl,rfl⟩:=h
   exact hr.mv hF fun _ _=>rfl
 |nl=>
  cases t with
  |sl t=>
   replace h:some (C.l [],([]:List Nat))=some (c,f):=h
   simp at h;obtain ⟨rfl,rfl⟩:=h
   exact .sl0 _ _ _
  |_=>exact absurd (show (none:Option (C×List Nat))=some (c,f) from h) (by simp)
 |np=>
  cases t with
  |pt t=>
   replace h:some (C.nil,([]:List Nat))=some (c,f):=h
   simp at h;obtain ⟨rfl,rfl⟩:=h
   exact .pt0 _
  |_=>exact absurd (show (none:Option (C×List Nat))=some (c,f) from h) (by simp)
 |ow b ver v y hb hv hs hh=>
  cases t with
  |sl t=>
   replace h:(match cU bx b ver with|some (t',es)=>sif (Nat.beq t t') (some (C.l es,[b])) none|none=>none)=some (c,f):=h
   split at h
   ·rename_i t' es hl
    cases ht:Nat.beq t t' with
    |false=>simp[ht,sif] at h
    |true=>
     simp[ht,sif] at h
     obtain ⟨rfl,rfl⟩:=h
     have:=Nat.eq_of_beq_eq_true ht;subst this
     obtain ⟨md,hbb,hm3⟩:=jx hl
     rw[hb] at hbb
     obtain rfl:=Option.some.inj hbb
     obtain ⟨t2,es2,m2,_,rfl⟩:=hh rfl
     exact hz b (by simp) _ _ _ _ hb hm3
   ·simp at h
  |_=>exact absurd (show (none:Option (C×List Nat))=some (c,f) from h) (by simp)
 |_=>cases t<;>exact absurd (show (none:Option (C×List Nat))=some (c,f) from h) (by simp)
theorem tZ:∀ {cts:List CT} {cells:List V} {cs:List C} {f:List Nat},iV bx cts cells=some (cs,f)→
  cs.length=cts.length∧((∀k,F k→F' k)→(∀b,b∈f→∀ver t es m,bx b=some (.arr ver t es m)→m≠3→bX T F' w (.sl t) (.l es) (θ b))→
   ∀(i:Nat) (c:C) (ct:CT),cs[i]?=some c→cts[i]?=some ct→∃x,cells[i]?=some x∧∀v,aj T F w bx θ x v→bX T F' w ct c v)
 |[],[],cs,f,h=>by
  replace h:some (([]:List C),([]:List Nat))=some (cs,f):=h
  simp at h;obtain ⟨rfl,rfl⟩:=h
  exact ⟨rfl,fun _ _ i c ct h=>by simp at h⟩
 |[],_::_,cs,f,h=>absurd (show (none:Option (List C×List Nat))=some (cs,f) from h) (by simp)
 |_::_,[],cs,f,h=>absurd (show (none:Option (List C×List Nat))=some (cs,f) from h) (by simp)
 |t::ts,v::vs,cs,f,h=>by
  replace h:(match uR bx t v with
   |some (x,f)=>match iV bx ts vs with
    |some (xs,g)=>some (x::xs,app f g)
    |none=>none
   |none=>none)=some (cs,f):=h
  split at h
  ·rename_i x f1 h1
   split at h
   ·rename_i xs g h2
    simp only[Option.some.injEq,Prod.mk.injEq] at h
    obtain ⟨rfl,rfl⟩:=h
    obtain ⟨a,b⟩:=tZ h2
    refine ⟨by simp[a],fun hF hz i c ct hi ht=>?_⟩
    rw[ff] at hz
    cases i with
    |zero=>
     simp only[List.getElem?_cons_zero,Option.some.injEq] at hi ht
     subst hi;subst ht
     exact ⟨v,rfl,fun u hu=>D3 h1 hu hF fun b hb=>hz b (List.mem_append_left _ hb)⟩
    |succ i=>
     obtain ⟨x',e1,e2⟩:=b hF (fun b hb=>hz b (List.mem_append_right _ hb)) i c ct (by simpa using hi) (by simpa using ht)
     exact ⟨x',by simpa using e1,e2⟩
   ·simp at h
  ·simp at h
theorem zr:∀ {cts:List CT} {cells:List V} {cs:List C} {f:List Nat},iV bx cts cells=some (cs,f)→cells.length=cts.length
 |[],[],_,_,_=>rfl
 |[],_::_,cs,f,h=>absurd (show (none:Option (List C×List Nat))=some (cs,f) from h) (by simp)
 |_::_,[],cs,f,h=>absurd (show (none:Option (List C×List Nat))=some (cs,f) from h) (by simp)
 |t::ts,v::vs,cs,f,h=>by
  simp only[iV] at h
  split at h
  ·split at h
   ·rename_i h2;simp[zr h2]
   ·simp at h
  ·simp at h
theorem Ex.Gz (e:Ex) (x:C) (b:Nat) (f:List Nat):e.le ⟨x::e.xs,e.r,b::app f e.fz⟩:=⟨⟨[x],rfl⟩,fun _ _ h=>h,fun c h=>by
 rw[ff];exact List.mem_cons_of_mem _ (List.mem_append_right _ h)⟩
theorem Ex.Ec (e:Ex) (x:C) (f:List Nat):e.le ⟨x::e.xs,e.r,app f e.fz⟩:=⟨⟨[x],rfl⟩,fun _ _ h=>h,fun c h=>by
 rw[ff];exact List.mem_append_right _ h⟩
theorem qJ:∀ {ts:List CT} {vs:List V},jr ts vs=true→vs.length=ts.length∧∀(i:Nat) (x:V),vs[i]?=some x→∃t c,ts[i]?=some t∧x=.c t c
 |[],[],_=>⟨rfl,fun i x h=>by simp at h⟩
 |[],_::_,h=>by simp[jr] at h
 |_::_,[],h=>by simp[jr] at h
 |t::ts,v::vs,h=>by
  cases v with
  |c t' c=>
   simp only[jr,aq,Bool.and_eq_true] at h
   obtain ⟨a,b⟩:=qJ h.2
   refine ⟨by simp[a],fun i x hx=>?_⟩
   cases i with
   |zero=>simp at hx;exact ⟨t,c,rfl,by rw[←hx,fH h.1]⟩
   |succ i=>simpa using b i x (by simpa using hx)
  |_=>simp[jr] at h
theorem Ba {ts:List CT} {cs:List C} {vals:List Value} (hl:cs.length=ts.length) (hv:vals.length=ts.length) (h:∀(i:Nat) (c:C) (t:CT) (v:Value),cs[i]?=some c→ts[i]?=some t→vals[i]?=some v→bX T F w t c v):
  aj T F w bx θ (.ag (ec ts cs 0 (len ts)) (some (.p cs))) (.agg vals.toArray):=by
 obtain ⟨h1,h2⟩:=jP ts cs (len ts) 0
 rw[cV] at h1 h2⊢
 refine .ag _ _ _ (by rw[h1,hv]) (fun x hx=>⟨cs,(Option.some.inj hx).symm,by rw[h1,hl],fun i v hv=>?_⟩) fun i x v a b=>?_
 ·have hi:i<ts.length:=by rw[←h1];exact (List.getElem?_eq_some_iff.1 hv).1
  rw[h2 i hi,Nat.zero_add] at hv
  exact ⟨_,(Option.some.inj hv).symm⟩
 ·have hi:i<ts.length:=by rw[←h1];exact (List.getElem?_eq_some_iff.1 a).1
  rw[h2 i hi,Nat.zero_add] at a
  rw[←Option.some.inj a]
  refine .c _ _ _ (h i _ _ v ?_ ?_ b)
  ·rw[List.getD_eq_getElem?_getD,List.getElem?_eq_getElem (by omega)];rfl
  ·rw[List.getD_eq_getElem?_getD,List.getElem?_eq_getElem hi];rfl
theorem Hz {ts:List CT} {cs:List C} {o:Option C} {off n:Nat} {v:Value} (hF:∀k,F k→F' k) (h:aj T F w bx θ (.ag (ec ts cs off n) o) v):aj T F' w bx' θ' (.ag (ec ts cs off n) o) v:=by
 cases h with
 |ag _ _ vs hl ho hr=>
  refine .ag _ _ vs hl ho fun i x v a b=>?_
  have:=hr i x v a b
  obtain ⟨h1,h2⟩:=jP ts cs n off
  have hi:i<n:=by rw[←h1];exact (List.getElem?_eq_some_iff.1 a).1
  rw[h2 i hi] at a
  rw[←Option.some.inj a] at this⊢
  cases this with
  |c _ _ _ hc=>exact .c _ _ _ (hc.mv hF fun _ _=>rfl)
variable (hK:KnB T F w bx θ)
include hK
mutual
theorem DQ:∀(k:Sk) (v:V) (val:Value) (e e':Ex),aj T F w bx θ v val→k.ext T bx v e=some e'→HJ T F w bx θ l k val e e'
 |.un,v,val,e,e',hv,h=>by
  replace h:some e=some e':=by cases v<;>exact h
  simp only[Option.some.injEq] at h
  subst h
  exact ⟨Ex.le_refl _,fun _ _=>rfl,fun ef _ _ F' bx' θ' _=>.un _⟩
 |.d t,v,val,e,e',hv,h=>by
  cases hv with
  |c t' x v hr=>
   replace h:sif (ia t t') (some ⟨x::e.xs,e.r,e.fz⟩) none=some e':=by cases t<;>exact h
   cases hc:ia t t' with
   |false=>simp[hc,sif] at h
   |true=>
    simp[hc,sif] at h
    have:=fH hc;subst this
    subst h
    refine ⟨e.push x,fun _ _=>rfl,fun ef hef _ F' bx' θ' hf=>?_⟩
    show aj T F' w bx' θ' (.c t (ef.xs.reverse.getD e.xs.length .nil)) _
    rw[fp hef.xs]
    exact .c _ _ _ (hr.mv hf.F fun _ _=>rfl)
  |nl=>
   cases t with
   |sl t=>
    replace h:some (⟨.l []::e.xs,e.r,e.fz⟩:Ex)=some e':=h
    simp only[Option.some.injEq] at h
    subst h
    refine ⟨e.push _,fun _ _=>rfl,fun ef hef _ F' bx' θ' hf=>?_⟩
    show aj T F' w bx' θ' (.c _ (ef.xs.reverse.getD e.xs.length .nil)) _
    rw[fp hef.xs]
    exact .c _ _ _ (.sl0 _ _ _)
   |_=>exact absurd (show (none:Option Ex)=some e' from h) (by simp)
  |vw b ver lo hi v y hb hv hs hh=>
   cases t with
   |sl t=>
    replace h:(match cU bx b ver with
     |some (t',es)=>sif (Nat.beq t t') (some (⟨.l ((es.take hi.toNat).drop lo.toNat)::e.xs,e.r,b::e.fz⟩:Ex)) none
     |none=>none)=some e':=h
    split at h
    ·rename_i t' es hl
     obtain ⟨md,hbb,hm3⟩:=jx hl
     cases ht:Nat.beq t t' with
     |false=>simp[ht,sif] at h
     |true=>
      simp[ht,sif] at h
      have:=Nat.eq_of_beq_eq_true ht
      subst this
      subst h
      rw[hb] at hbb
      obtain rfl:=Option.some.inj hbb
      obtain ⟨t2,es2,m2,d,A,c,e1,hd,h0,h1,h2,rfl,hcc,hA,_⟩:=hh rfl
      simp only[Box.arr.injEq,true_and] at e1
      obtain ⟨rfl,rfl,rfl⟩:=e1
      refine ⟨e.xD _ _,fun _ _=>rfl,fun ef hef _ F' bx' θ' hf=>?_⟩
      show aj T F' w bx' θ' (.c _ (ef.xs.reverse.getD e.xs.length .nil)) _
      rw[fp hef.xs]
      exact .c _ _ _ (CK hd h0 h1 h2 hcc hA (hf.fz b (hef.fz _ (List.mem_cons_self ..)) _ _ _ _ hb hm3))
    ·simp at h
   |_=>exact absurd (show (none:Option Ex)=some e' from h) (by simp)
  |pt b ver off v y hb hv hs hh=>
   cases t with
   |pt t=>
    cases off with
    |succ off=>exact absurd (show (none:Option Ex)=some e' from h) (by simp)
    |zero=>
     replace h:(match bx b with
      |some (.var v t' cells)=>sif (aA (Nat.beq t t') (Nat.beq v ver)) (match aV T t with
       |some td=>match iV bx td.cts cells with
        |some (cs,f)=>some (⟨.p cs::e.xs,e.r,b::app f e.fz⟩:Ex)
        |none=>none
       |none=>none) none
      |_=>none)=some e':=h
     rw[hb] at h
     cases y with
     |var v' t' cells=>
      replace h:sif (aA (Nat.beq t t') (Nat.beq v' ver)) (match aV T t with
       |some td=>match iV bx td.cts cells with
        |some (cs,f)=>some (⟨.p cs::e.xs,e.r,b::app f e.fz⟩:Ex)
        |none=>none
       |none=>none) none=some e':=h
      cases hq:aA (Nat.beq t t') (Nat.beq v' ver) with
      |false=>rw[hq,aR] at h;simp at h
      |true=>
       rw[hq,af] at h
       simp only[aq,Bool.and_eq_true] at hq
       have e1:=Nat.eq_of_beq_eq_true hq.1;subst e1
       have e2:=Nat.eq_of_beq_eq_true hq.2;subst e2
       split at h
       ·rename_i td htd
        split at h
        ·rename_i cs f hcs
         simp only[Option.some.injEq] at h
         subst h
         obtain ⟨t2,cells2,g,e3,e4,rfl⟩:=hh rfl
         simp only[Box.var.injEq,true_and] at e3
         obtain ⟨rfl,rfl⟩:=e3
         obtain ⟨g',wcs,ee,d,k1,k2,k3,k4,k5,k6⟩:=hK b _ hb
         rw[e4] at k1
         simp only[Value.pointer.injEq,Option.some.injEq,Addr.mk.injEq,true_and] at k1
         obtain ⟨rfl,_⟩:=k1
         rw[htd] at k4
         obtain rfl:=Option.some.inj k4
         refine ⟨e.Gz _ _ _,fun _ _=>rfl,fun ef hef _ F' bx' θ' hf=>?_⟩
         show aj T F' w bx' θ' (.c _ (ef.xs.reverse.getD e.xs.length .nil)) _
         rw[fp hef.xs]
         have hmem:∀c,c∈f→c∈ef.fz:=fun c hc=>hef.fz _ (List.mem_cons_of_mem _ (by rw[ff];exact List.mem_append_left _ hc))
         obtain ⟨l1,l2⟩:=tZ (T:=T) (F:=F) (F':=F') (w:=w) (θ:=θ) hcs
         have l3:=l2 hf.F (fun c hc=>hf.fz c (hmem c hc))
         refine .c _ _ _ (.pt t td cs g 0 (fun j=>wcs.getD j undef) htd (hf.fzF b (hef.fz _ (List.mem_cons_self ..)) _ hb rfl g (by rw[e4];rfl)) l1 (fun j c hj=>?_) fun j c ct hj hct=>?_)
         ·have hj':j<wcs.size:=by rw[k3,k5,←l1];exact (List.getElem?_eq_some_iff.1 hj).1
          simp[World.cell?,k2,hj']
         ·obtain ⟨x,a1,a2⟩:=l3 j c ct hj hct
          have hj':j<wcs.size:=by rw[k3];exact (List.getElem?_eq_some_iff.1 a1).1
          refine a2 _ (k6 j x _ a1 ?_)
          simp[hj']
        ·simp at h
       ·simp at h
     |_=>exact absurd (show (none:Option Ex)=some e' from h) (by simp)
   |_=>cases off<;>exact absurd (show (none:Option Ex)=some e' from h) (by simp)
  |pe b ver ix off nb v y hb hv hs hh=>
   cases t with
   |pt t=>
    cases off with
    |succ off=>exact absurd (show (none:Option Ex)=some e' from h) (by simp)
    |zero=>
     replace h:(match cU bx b ver with
      |some (t',es)=>sif (Nat.beq t t') (some (⟨sif nb (cond (decide (0≤ix)) (.p (es.getD ix.toNat [])) .nil) (.p (es.getD ix.toNat []))::e.xs,e.r,b::e.fz⟩:Ex)) none
      |none=>none)=some e':=h
     split at h
     ·rename_i t' es hl
      cases ht:Nat.beq t t' with
      |false=>simp[ht,sif] at h
      |true=>
       rw[ht,af] at h
       simp only[Option.some.injEq] at h
       have:=Nat.eq_of_beq_eq_true ht;subst this
       subst h
       obtain ⟨md,hbb,hm3⟩:=jx hl
       rw[hb] at hbb
       obtain rfl:=Option.some.inj hbb
       obtain ⟨t2,es2,m2,d,e3,hd,e4⟩:=hh rfl
       simp only[Box.arr.injEq,true_and] at e3
       obtain ⟨rfl,rfl,rfl⟩:=e3
       refine ⟨e.xD _ _,fun _ _=>rfl,fun ef hef _ F' bx' θ' hf=>?_⟩
       show aj T F' w bx' θ' (.c _ (ef.xs.reverse.getD e.xs.length .nil)) _
       rw[fp hef.xs]
       have hz:=hf.fz b (hef.fz _ (List.mem_cons_self ..)) _ _ _ _ hb hm3
       rcases e4 with ⟨rfl,h1,rfl⟩|⟨h0,h1,g,og,cap,h2,rfl⟩
       ·rw[af]
        have:decide (0≤ix)=false:=by simp;omega
        rw[this]
        exact .c _ _ _ (.pt0 _)
       ·have hx:sif nb (cond (decide (0≤ix)) (C.p (es.getD ix.toNat [])) .nil) (.p (es.getD ix.toNat []))=.p (es.getD ix.toNat []):=by
         have:decide (0≤ix)=true:=by simp;omega
         rw[this];cases nb<;>rfl
        rw[hx]
        refine .c _ _ _ ?_
        rw[h2] at hz
        generalize hgz:Value.slice (some ⟨g,og,none⟩) es.length cap=z at hz
        have hlt:ix.toNat<es.length:=by omega
        cases hz with
        |sl0=>simp at hlt
        |sl _ d' _ g' o' cap' cv hd' hF hcap hlen hc hr=>
         simp only[Value.slice.injEq,Option.some.injEq,Addr.mk.injEq] at hgz
         obtain ⟨⟨rfl,rfl,_⟩,_,_⟩:=hgz
         rw[hd] at hd'
         obtain rfl:=Option.some.inj hd'
         have hrow:es[ix.toNat]?=some (es.getD ix.toNat []):=by simp[List.getD_eq_getElem?_getD,List.getElem?_eq_getElem hlt]
         refine .pt t d _ g (og+(ix.toNat*d.cts.length+0)) (fun j=>cv ix.toNat j) hd hF (hlen _ _ hrow) (fun j c hj=>?_) fun j c ct hj hct=>hr _ _ _ _ _ hrow hj hct
         have:=hc _ _ _ _ hrow hj
         rw[←this]
         congr 2
         omega
     ·simp at h
   |_=>cases off<;>exact absurd (show (none:Option Ex)=some e' from h) (by simp)
  |fa cts cs off g o cv hF hlen hc hr=>
   cases t with
   |pt t=>
    cases off with
    |succ off=>exact absurd (show (none:Option Ex)=some e' from h) (by simp)
    |zero=>
     replace h:(match aV T t with
      |some d=>sif (nS cts d.cts) (some (⟨.p cs::e.xs,e.r,e.fz⟩:Ex)) none
      |none=>none)=some e':=h
     split at h
     ·rename_i d hd
      cases hq:nS cts d.cts with
      |false=>simp[hq,sif] at h
      |true=>
       rw[hq,af] at h
       have:=vZ hq
       subst this
       simp only[Option.some.injEq] at h
       subst h
       refine ⟨e.push _,fun _ _=>rfl,fun ef hef _ F' bx' θ' hf=>?_⟩
       show aj T F' w bx' θ' (.c _ (ef.xs.reverse.getD e.xs.length .nil)) _
       rw[fp hef.xs]
       exact .c _ _ _ ((bX.pt t d cs g o cv hd hF hlen hc hr).mv hf.F fun _ _=>rfl)
     ·simp at h
   |_=>cases off<;>exact absurd (show (none:Option Ex)=some e' from h) (by simp)
  |np=>
   cases t with
   |pt t=>
    replace h:some (⟨.nil::e.xs,e.r,e.fz⟩:Ex)=some e':=h
    simp only[Option.some.injEq] at h
    subst h
    refine ⟨e.push _,fun _ _=>rfl,fun ef hef _ F' bx' θ' hf=>?_⟩
    show aj T F' w bx' θ' (.c _ (ef.xs.reverse.getD e.xs.length .nil)) _
    rw[fp hef.xs]
    exact .c _ _ _ (.pt0 _)
   |_=>exact absurd (show (none:Option Ex)=some e' from h) (by simp)
  |ow b ver v y hb hv hs hh=>
   cases t with
   |sl t=>
    replace h:(match cU bx b ver with
     |some (t',es)=>sif (Nat.beq t t') (some (⟨.l es::e.xs,e.r,b::e.fz⟩:Ex)) none
     |none=>none)=some e':=h
    split at h
    ·rename_i t' es hl
     cases ht:Nat.beq t t' with
     |false=>simp[ht,sif] at h
     |true=>
      simp[ht,sif] at h
      subst h
      have:=Nat.eq_of_beq_eq_true ht;subst this
      obtain ⟨md,hbb,hm3⟩:=jx hl
      rw[hb] at hbb
      obtain rfl:=Option.some.inj hbb
      obtain ⟨t2,es2,m2,_,rfl⟩:=hh rfl
      refine ⟨e.xD _ _,fun _ _=>rfl,fun ef hef _ F' bx' θ' hf=>?_⟩
      show aj T F' w bx' θ' (.c _ (ef.xs.reverse.getD e.xs.length .nil)) _
      rw[fp hef.xs]
      exact .c _ _ _ (hf.fz b (hef.fz _ (List.mem_cons_self ..)) _ _ _ _ hb hm3)
    ·simp at h
   |_=>exact absurd (show (none:Option Ex)=some e' from h) (by simp)
  |_=>cases t<;>exact absurd (show (none:Option Ex)=some e' from h) (by simp)
 |.ow n,v,val,e,e',hv,h=>by
  cases hv with
  |ow b ver v y hb hv hs hh=>
   replace h:(match cU bx b ver with
    |some _=>e.put n (some b)
    |none=>none)=some e':=h
   split at h
   ·rename_i q hl
    obtain ⟨t,es⟩:=q
    obtain ⟨md,hbb,hm3⟩:=jx hl
    rw[hb] at hbb
    obtain rfl:=Option.some.inj hbb
    obtain ⟨t2,es2,m2,_,rfl⟩:=hh rfl
    obtain ⟨p1,p2,p3,p4⟩:=me h
    refine ⟨p1,fun _ _=>by rw[p3];rfl,fun ef hef hn F' bx' θ' hf=>?_⟩
    obtain ⟨x,x',q1,q2,q3,q4,q5⟩:=hf.nm n b hn (hef.r _ _ p2)
    rw[hb] at q1;obtain rfl:=Option.some.inj q1
    cases x' with
    |arr v' t' es' m'=>
     simp only[Box.ver] at q3;subst q3
     exact .ow n 0 _ _ q2 (Nat.le_refl _) hs fun _=>⟨t',es',m',rfl,q5.symm⟩
    |_=>exact q4.elim
   ·simp at h
  |nl=>
   replace h:e.put n none=some e':=h
   obtain ⟨p1,p2,p3,p4⟩:=me h
   refine ⟨p1,fun _ _=>by rw[p3];rfl,fun ef hef hn F' bx' θ' hf=>?_⟩
   obtain ⟨t,m0,q1,q2⟩:=hf.no n hn (hef.r _ _ p2)
   exact .ow n 0 _ _ q1 (Nat.le_refl _) ⟨_,_,_,rfl⟩ fun _=>⟨t,[],m0,rfl,q2.symm⟩
  |_=>exact absurd (show (none:Option Ex)=some e' from h) (by simp)
 |.mp n,v,val,e,e',hv,h=>by
  cases hv with
  |mp b ver v y hb hv hs hh=>
   replace h:(match bx b with
    |some (.mp v _ _)=>sif (Nat.beq v ver) (e.put n (some b)) none
    |_=>none)=some e':=h
   rw[hb] at h
   cases y with
   |mp v' t es=>
    replace h:sif (Nat.beq v' ver) (e.put n (some b)) none=some e':=h
    cases hc:Nat.beq v' ver with
    |false=>simp[hc,sif] at h
    |true=>
     rw[hc,af] at h
     have e2:=Nat.eq_of_beq_eq_true hc;subst e2
     obtain ⟨t2,es2,e3,rfl⟩:=hh rfl
     obtain ⟨p1,p2,p3,p4⟩:=me h
     refine ⟨p1,fun _ _=>by rw[p3];rfl,fun ef hef hn F' bx' θ' hf=>?_⟩
     obtain ⟨x,x',q1,q2,q3,q4,q5⟩:=hf.nm n b hn (hef.r _ _ p2)
     rw[hb] at q1;obtain rfl:=Option.some.inj q1
     cases x' with
     |mp v2 t3 es3=>
      simp only[Box.ver] at q3;subst q3
      exact .mp n 0 _ _ q2 (Nat.le_refl _) hs fun _=>⟨t3,es3,rfl,q5.symm⟩
     |_=>exact q4.elim
   |_=>exact absurd (show (none:Option Ex)=some e' from h) (by simp)
  |_=>exact absurd (show (none:Option Ex)=some e' from h) (by simp)
 |.pt n o,v,val,e,e',hv,h=>by
  cases hv with
  |pt b ver o' v y hb hv hs hh=>
   replace h:(match bx b with
    |some (.var v _ _)=>sif (aA (Nat.beq o o') (Nat.beq v ver)) (e.put n (some b)) none
    |_=>none)=some e':=h
   rw[hb] at h
   cases y with
   |var v' t cells=>
    replace h:sif (aA (Nat.beq o o') (Nat.beq v' ver)) (e.put n (some b)) none=some e':=h
    cases hc:aA (Nat.beq o o') (Nat.beq v' ver) with
    |false=>simp[hc,sif] at h
    |true=>
     rw[hc,af] at h
     simp only[aq,Bool.and_eq_true] at hc
     have e1:=Nat.eq_of_beq_eq_true hc.1;subst e1
     have e2:=Nat.eq_of_beq_eq_true hc.2;subst e2
     obtain ⟨t2,cells2,g,e3,e4,rfl⟩:=hh rfl
     obtain ⟨p1,p2,p3,p4⟩:=me h
     refine ⟨p1,fun _ _=>by rw[p3];rfl,fun ef hef hn F' bx' θ' hf=>?_⟩
     obtain ⟨x,x',q1,q2,q3,q4,q5⟩:=hf.nm n b hn (hef.r _ _ p2)
     rw[hb] at q1;obtain rfl:=Option.some.inj q1
     cases x' with
     |var v2 t3 cells3=>
      simp only[Box.ver] at q3;subst q3
      exact .pt n 0 o _ _ q2 (Nat.le_refl _) hs fun _=>⟨t3,cells3,g,rfl,by rw[q5,e4],rfl⟩
     |_=>exact q4.elim
   |_=>exact absurd (show (none:Option Ex)=some e' from h) (by simp)
  |_=>exact absurd (show (none:Option Ex)=some e' from h) (by simp)
 |.pe n o,v,val,e,e',hv,h=>by
  cases hv with
  |pe b ver ix o' nb v y hb hv hs hh=>
   replace h:(match cU bx b ver with
    |some _=>sif (Nat.beq o o') (Ex.put ⟨.i ix::e.xs,e.r,e.fz⟩ n (some b)) none
    |none=>none)=some e':=h
   split at h
   ·rename_i q hl
    obtain ⟨t,es⟩:=q
    obtain ⟨md,hbb,hm3⟩:=jx hl
    rw[hb] at hbb
    obtain rfl:=Option.some.inj hbb
    cases hc:Nat.beq o o' with
    |false=>simp[hc,sif] at h
    |true=>
     rw[hc,af] at h
     have e1:=Nat.eq_of_beq_eq_true hc;subst e1
     obtain ⟨t2,es2,m2,d,e3,hd,e4⟩:=hh rfl
     simp only[Box.arr.injEq,true_and] at e3
     obtain ⟨rfl,rfl,rfl⟩:=e3
     obtain ⟨p1,p2,p3,p4⟩:=me h
     refine ⟨(e.push _).le_trans p1,fun _ _=>by rw[p3];rfl,fun ef hef hn F' bx' θ' hf=>?_⟩
     obtain ⟨x,x',q1,q2,q3,q4,q5⟩:=hf.nm n b hn (hef.r _ _ p2)
     rw[hb] at q1;obtain rfl:=Option.some.inj q1
     have hx:ef.xs.reverse.getD e.xs.length .nil=.i ix:=fp (by have:=hef.xs;rw[p3] at this;exact this)
     cases x' with
     |arr v' t' es' m'=>
      simp only[Box.ver] at q3;subst q3
      obtain ⟨rfl,hlen⟩:=q4
      show aj T F' w bx' θ' (.pe n 0 (ef.xs.reverse.getD e.xs.length .nil).I o true) _
      rw[hx]
      refine .pe n 0 ix o true _ _ q2 (Nat.le_refl _) hs fun _=>⟨t,es',m',d,rfl,hd,?_⟩
      rcases e4 with ⟨_,h1,h2⟩|⟨h0,h1,g,og,cap,h2,h3⟩
      ·exact .inl ⟨rfl,h1,h2⟩
      ·exact .inr ⟨h0,by omega,g,og,cap,by rw[q5,h2,hlen],h3⟩
     |_=>exact q4.elim
   ·simp at h
  |np=>
   replace h:(match e.r.find n with
    |some (some b)=>match bx b with
     |some (.arr _ _ _ _)=>some (⟨.i (-1)::e.xs,e.r,e.fz⟩:Ex)
     |_=>none
    |_=>none)=some e':=h
   split at h
   ·rename_i b hfd
    split at h
    ·rename_i v1 t1 es1 m1 hb
     simp only[Option.some.injEq] at h
     subst h
     refine ⟨e.push _,fun _ _=>rfl,fun ef hef hn F' bx' θ' hf=>?_⟩
     obtain ⟨x,x',q1,q2,q3,q4,q5⟩:=hf.nm n b hn (hef.r _ _ hfd)
     rw[hb] at q1;obtain rfl:=Option.some.inj q1
     have hx:ef.xs.reverse.getD e.xs.length .nil=.i (-1):=fp hef.xs
     cases x' with
     |arr v' t' es' m'=>
      simp only[Box.ver] at q3;subst q3
      obtain ⟨rfl,hlen⟩:=q4
      obtain ⟨d,hd⟩:=hK.knT b v1 _ es1 m1 hb
      show aj T F' w bx' θ' (.pe n 0 (ef.xs.reverse.getD e.xs.length .nil).I o true) _
      rw[hx]
      exact .pe n 0 (-1) o true _ _ q2 (Nat.le_refl _) ⟨_,rfl⟩ fun _=>⟨_,es',m',d,rfl,hd,.inl ⟨rfl,by decide,rfl⟩⟩
     |_=>exact q4.elim
    ·simp at h
   ·simp at h
  |_=>exact absurd (show (none:Option Ex)=some e' from h) (by simp)
 |.st ts,v,val,e,e',hv,h=>by
  cases hv with
  |ag vs o vals hl ho hr=>
   cases o with
   |some x=>
    replace h:sif (jr ts vs) (some (⟨x::e.xs,e.r,e.fz⟩:Ex)) none=some e':=h
    cases hc:jr ts vs with
    |false=>simp[hc,sif] at h
    |true=>
     rw[hc,af] at h
     simp only[Option.some.injEq] at h
     subst h
     obtain ⟨cs,rfl,q1,q2⟩:=ho _ rfl
     obtain ⟨p1,p2⟩:=qJ hc
     refine ⟨e.push _,fun _ _=>rfl,fun ef hef _ F' bx' θ' hf=>?_⟩
     show aj T F' w bx' θ' (.ag (ec ts (ef.xs.reverse.getD e.xs.length .nil).P 0 (len ts)) (some (ef.xs.reverse.getD e.xs.length .nil))) _
     rw[fp hef.xs]
     show aj T F' w bx' θ' (.ag (ec ts cs 0 (len ts)) (some (.p cs))) _
     refine Ba (by omega) (by omega) fun i c t u a1 a2 a3=>?_
     have hi:i<vs.length:=by rw[p1];exact (List.getElem?_eq_some_iff.1 a2).1
     obtain ⟨t',c',b1,b2⟩:=p2 i _ (List.getElem?_eq_getElem hi)
     obtain ⟨t2,b3⟩:=q2 i _ (List.getElem?_eq_getElem hi)
     rw[b2] at b3
     simp only[V.c.injEq] at b3
     rw[a2] at b1
     have:=hr i _ u (List.getElem?_eq_getElem hi) a3
     rw[b2] at this
     cases this with
     |c _ _ _ hx=>
      rw[b3.2,List.getD_eq_getElem?_getD,a1,←Option.some.inj b1] at hx
      exact hx.mv hf.F fun _ _=>rfl
   |none=>
    replace h:(match iV bx ts vs with
     |some (cs,f)=>some (⟨.p cs::e.xs,e.r,app f e.fz⟩:Ex)
     |none=>none)=some e':=h
    split at h
    ·rename_i cs f hcs
     simp only[Option.some.injEq] at h
     subst h
     refine ⟨e.Ec _ _,fun _ _=>rfl,fun ef hef _ F' bx' θ' hf=>?_⟩
     show aj T F' w bx' θ' (.ag (ec ts (ef.xs.reverse.getD e.xs.length .nil).P 0 (len ts)) (some (ef.xs.reverse.getD e.xs.length .nil))) _
     rw[fp hef.xs]
     obtain ⟨l1,l2⟩:=tZ (T:=T) (F:=F) (F':=F') (w:=w) (θ:=θ) hcs
     have l3:=l2 hf.F (fun c hc=>hf.fz c (hef.fz _ (by rw[ff];exact List.mem_append_left _ hc)))
     have hlen:=zr hcs
     refine Ba l1 (by omega) fun i c t u a1 a2 a3=>?_
     obtain ⟨x,b1,b2⟩:=l3 i c t a1 a2
     exact b2 u (hr i x u b1 a3)
    ·simp at h
  |_=>exact absurd (show (none:Option Ex)=some e' from h) (by simp)
 |.ag q,v,val,e,e',hv,h=>by
  cases hv with
  |ag vs _ vals hl _ hr=>
   replace h:Sk.exts T bx q vs e=some e':=h
   obtain ⟨h1,h2,h3,h4⟩:=re q vs vals e e' hl hr h
   refine ⟨h1.1,fun nm xs=>h2 nm xs,fun ef hef hn F' bx' θ' hf=>?_⟩
   exact .ag _ _ _ (by rw[bu,hl,h1.2]) tA (h4 ef hef hn F' bx' θ' hf)
  |_=>exact absurd (show (none:Option Ex)=some e' from h) (by simp)
 |.tu q,v,val,e,e',hv,h=>by
  cases hv with
  |tu vs vals hl hr=>
   replace h:Sk.exts T bx q vs e=some e':=h
   obtain ⟨h1,h2,h3,h4⟩:=re q vs vals e e' hl hr h
   refine ⟨h1.1,fun nm xs=>h2 nm xs,fun ef hef hn F' bx' θ' hf=>?_⟩
   exact .tu _ _ (by rw[bu,hl,h1.2]) (h4 ef hef hn F' bx' θ' hf)
  |_=>exact absurd (show (none:Option Ex)=some e' from h) (by simp)
 |.fn f q,v,val,e,e',hv,h=>by
  cases hv with
  |fn f' vs vals hl hr=>
   replace h:sif (Nat.beq f f') (Sk.exts T bx q vs e) none=some e':=h
   cases hc:Nat.beq f f' with
   |false=>simp[hc,sif] at h
   |true=>
    rw[hc,af] at h
    have e1:=Nat.eq_of_beq_eq_true hc;subst e1
    obtain ⟨h1,h2,h3,h4⟩:=re q vs vals e e' hl hr h
    refine ⟨h1.1,fun nm xs=>h2 nm xs,fun ef hef hn F' bx' θ' hf=>?_⟩
    exact .fn _ _ _ (by rw[bu,hl,h1.2]) (h4 ef hef hn F' bx' θ' hf)
  |_=>exact absurd (show (none:Option Ex)=some e' from h) (by simp)
theorem re:∀(ks:List Sk) (vs:List V) (vals:List Value) (e e':Ex),vals.length=vs.length→(∀(i:Nat) (x:V) (v:Value),vs[i]?=some x→vals[i]?=some v→aj T F w bx θ x v)→
  Sk.exts T bx ks vs e=some e'→(e.le e'∧vs.length=ks.length)∧(∀nm xs,(Sk.insts nm xs ks e.xs.length).2=e'.xs.length)∧True∧
  ∀ef,e'.le ef→Sk.qg l ks=true→∀F' bx' θ',Fin T F w bx θ F' bx' θ' l ef→∀(i:Nat) (x:V) (v:Value),(Sk.insts nm0 ef.xs.reverse ks e.xs.length).1[i]?=some x→vals[i]?=some v→aj T F' w bx' θ' x v
 |[],[],vals,e,e',hl,hr,h=>by
  replace h:some e=some e':=h
  simp only[Option.some.injEq] at h
  subst h
  exact ⟨⟨Ex.le_refl _,rfl⟩,fun _ _=>rfl,trivial,fun ef _ _ F' bx' θ' _ i x v hi=>by simp[Sk.insts] at hi⟩
 |[],_::_,vals,e,e',hl,hr,h=>absurd (show (none:Option Ex)=some e' from h) (by simp)
 |_::_,[],vals,e,e',hl,hr,h=>absurd (show (none:Option Ex)=some e' from h) (by simp)
 |k::ks,v::vs,[],e,e',hl,hr,h=>by simp at hl
 |k::ks,v::vs,u::us,e,e',hl,hr,h=>by
  replace h:(match k.ext T bx v e with
   |some e1=>Sk.exts T bx ks vs e1
   |none=>none)=some e':=h
  split at h
  ·rename_i e1 h1
   obtain ⟨a1,a2,a3⟩:=DQ k v u e e1 (hr 0 v u rfl rfl) h1
   obtain ⟨⟨b1,b0⟩,b2,b3,b4⟩:=re ks vs us e1 e' (by simpa using hl) (fun i x w h1 h2=>hr (i+1) x w (by simpa using h1) (by simpa using h2)) h
   refine ⟨⟨a1.le_trans b1,by simp[b0]⟩,fun nm xs=>?_,trivial,fun ef hef hn F' bx' θ' hf i x z hi hz=>?_⟩
   ·show (Sk.insts nm xs ks (k.inst nm xs e.xs.length).2).2=_
    rw[a2,b2]
   ·simp only[Sk.qg,aq,Bool.and_eq_true] at hn
    cases i with
    |zero=>
     simp[Sk.insts] at hi hz
     subst hi;subst hz
     exact a3 ef (b1.le_trans hef) hn.1 F' bx' θ' hf
    |succ i=>
     simp only[Sk.insts,List.getElem?_cons_succ] at hi hz
     rw[a2] at hi
     exact b4 ef hef hn.2 F' bx' θ' hf i x z hi hz
  ·simp at h
end
end
end Go.Ev
namespace Go.Ev
section
variable {T:Tys} {F F':Nat→Prop} {w:World} {bx bx':Bxs} {θ θ':Nat→Value} {l:List (Nat×BSk)}
theorem vU (hT:KnB T F w bx θ) {ρ:ca} {val:Nat→Value} (hr:∀d,aj T F w bx θ (ρ d) (val d)):∀(q:List (Nat×Sk)) (e e':Ex),ph T ⟨ρ,bx⟩ q e=some e'→
  e.le e'∧(∀nm xs f,(cg nm xs q e.xs.length f).2=e'.xs.length)∧
  ∀ef,e'.le ef→nG l q=true→∀F' bx' θ',Fin T F w bx θ F' bx' θ' l ef→∀f:ca,(∀d,aj T F' w bx' θ' (f d) (val d))→∀d,aj T F' w bx' θ' ((cg nm0 ef.xs.reverse q e.xs.length f).1 d) (val d)
 |[],e,e',h=>by
  replace h:some e=some e':=h
  simp only[Option.some.injEq] at h
  subst h
  exact ⟨Ex.le_refl _,fun _ _ _=>rfl,fun ef _ _ F' bx' θ' _ f hf d=>hf d⟩
 |(d,k)::r,e,e',h=>by
  replace h:(match k.ext T bx (ρ d) e with
   |some e1=>ph T ⟨ρ,bx⟩ r e1
   |none=>none)=some e':=h
  split at h
  ·rename_i e1 h1
   obtain ⟨a1,a2,a3⟩:=DQ (l:=l) hT k (ρ d) (val d) e e1 (hr d) h1
   obtain ⟨b1,b2,b3⟩:=vU hT hr r e1 e' h
   refine ⟨a1.le_trans b1,fun nm xs f=>?_,fun ef hef hn F' bx' θ' hF f hf=>?_⟩
   ·show (cg nm xs r (k.inst nm xs e.xs.length).2 _).2=_
    rw[a2,b2]
   ·simp only[nG,aq,Bool.and_eq_true] at hn
    show ∀d',aj T F' w bx' θ' ((cg nm0 ef.xs.reverse r (k.inst nm0 ef.xs.reverse e.xs.length).2 _).1 d') (val d')
    rw[a2]
    refine b3 ef hef hn.2 F' bx' θ' hF _ fun d'=>?_
    by_cases hd:d'=d
    ·subst hd
     rw[ar]
     exact a3 ef (b1.le_trans hef) hn.1 F' bx' θ' hF
    ·rw[aP _ _ hd];exact hf d'
  ·simp at h
def Shape (bx:Bxs) (r:Ren) (n:Nat) (x':Box):Prop:=
 x'.ver=0∧((∃b x,r.find n=some (some b)∧bx b=some x∧x.same x'∧mok x'.m x.m=true∧∀t es,x'=.arr 0 t es x'.m→∃v,x=.arr v t es x.m)∨(r.find n=some none∧∃t m,x'=.arr 0 t [] m))
theorem rK {m m':Nat} (h:mok m m'=true):(2≤m↔2≤m')∧m≠3∧m'≠3:=by
 unfold mok at h
 split at h<;>simp_all
theorem FP {m m':Nat} (h:mok m m'=true) (h0:m≠0):m'≠0:=by
 unfold mok at h
 split at h<;>simp_all
theorem we {m m':Nat} (h:mok m m'=true) (h0:m'≠4) (h2:m=2):m'=2:=by
 unfold mok at h
 split at h<;>simp_all
theorem Hb {m m':Nat} (h:mok m m'=true):m≤2:=by
 unfold mok at h
 split at h<;>simp_all
theorem CR.cast {m m':Nat} {t:CT} {c:C} {v:Value} (hm:mok m m'=true) (h:CR T F w m' t c v):CR T F w m t c v:=by
 by_cases h2:2≤m
 ·rw[zB h2 (rK hm).2.1]
  rw[zB ((rK hm).1.1 h2) (rK hm).2.2] at h
  exact h
 ·rw[pv h2]
  rw[pv (fun e=>h2 ((rK hm).1.2 e))] at h
  exact h
theorem cG (b n:Nat) (k:BSk) (r:List (Nat×BSk)):bC ((b,k)::r) n=true↔b=n∨bC r n=true:=by
 simp only[bC,jw,Bool.or_eq_true]
 refine or_congr ⟨Nat.eq_of_beq_eq_true,fun h=>?_⟩ Iff.rfl
 subst h;exact Nat.beq_refl _
theorem knT {fr:Fr} (hw:WR T fr F w bx θ):KnB T F w bx θ:=fun b x hb=>hw.box b x hb
theorem oT {fr:Fr} (hw:WR T fr F w bx θ):∀(q:List (Nat×BSk)) (e e':Ex),gh T bx q e=some e'→
  e.le e'∧
  (∀ef,e'.le ef→∀f:Bxs,(∀n,bC q n=true→∃x',cd nm0 ef.xs.reverse q e.xs.length f n=some x'∧Shape bx ef.r n x')∧(∀n,¬bC q n=true→cd nm0 ef.xs.reverse q e.xs.length f n=f n))∧
  ∀ef,e'.le ef→gS l q=true→bxT T q=true→∀F' bx' θ',Fin T F w bx θ F' bx' θ' l ef→(∀n b,ef.r.find n=some (some b)→θ' n=θ b)→(∀n,ef.r.find n=some none→θ' n=.slice none 0 0)→∀f:Bxs,∀n x',bC q n=true→cd nm0 ef.xs.reverse q e.xs.length f n=some x'→ic T F' w bx' θ' n x'
 |[],e,e',h=>by
  replace h:some e=some e':=h
  simp only[Option.some.injEq] at h
  subst h
  exact ⟨Ex.le_refl _,fun ef _ f=>⟨fun n hn=>by simp[bC] at hn,fun n _=>rfl⟩,fun ef _ _ _ F' bx' θ' _ _ _ f n x' hn=>by simp[bC] at hn⟩
 |(n,.var t cells)::r,e,e',h=>by
  replace h:(match e.r.find n with
   |some (some b)=>match bx b with
    |some (.var _ t' vs)=>match sif (Nat.beq t t') (Sk.exts T bx cells vs e) none with
     |some e'=>gh T bx r e'
     |none=>none
    |_=>none
   |_=>none)=some e':=h
  split at h
  ·rename_i b hb
   split at h
   ·rename_i v t' vs hbb
    cases hc:Nat.beq t t' with
    |false=>simp[hc,sif] at h
    |true=>
     rw[hc,af] at h
     have e1:=Nat.eq_of_beq_eq_true hc;subst e1
     split at h
     ·rename_i e1 h1
      obtain ⟨g,cs,te,d,q1,q2,q3,q4,q5,q6⟩:=hw.box b _ hbb
      obtain ⟨⟨a1,a0⟩,a2,_,a4⟩:=re (l:=l) (knT hw) cells vs cs.toList e e1 (by simpa using q3) (fun i x v h1 h2=>q6 i x v h1 (by simpa using h2)) h1
      obtain ⟨b1,b2,b3⟩:=oT hw r e1 e' h
      have hinst:∀(ef:Ex) (f:Bxs),cd nm0 ef.xs.reverse ((n,.var t cells)::r) e.xs.length f=cd nm0 ef.xs.reverse r e1.xs.length (upd f n (some (.var 0 t (Sk.insts nm0 ef.xs.reverse cells e.xs.length).1))):=by
       intro ef f
       show cd nm0 ef.xs.reverse r (Sk.insts nm0 ef.xs.reverse cells e.xs.length).2 _=_
       rw[a2];rfl
      have hfind:∀ef,e'.le ef→ef.r.find n=some (some b):=fun ef hef=>((a1.le_trans b1).le_trans hef).r _ _ hb
      refine ⟨a1.le_trans b1,fun ef hef f=>?_,fun ef hef hn hT F' bx' θ' hF hθ hθn f m x' hm hx=>?_⟩
      ·rw[hinst]
       obtain ⟨c1,c2⟩:=b2 ef hef (upd f n (some (.var 0 t (Sk.insts nm0 ef.xs.reverse cells e.xs.length).1)))
       refine ⟨fun m hm=>?_,fun m hm=>?_⟩
       ·by_cases hr:bC r m=true
        ·exact c1 m hr
        ·have:n=m:=((cG _ _ _ _).1 hm).resolve_right hr
         subst this
         refine ⟨_,by rw[c2 n hr,ar],rfl,.inl ⟨b,_,hfind ef hef,hbb,?_,rfl,fun t es h=>by simp at h⟩⟩
         show vs.length=_
         rw[bu];exact a0
       ·have hm':=fun h=>hm ((cG _ _ _ _).2 h)
        rw[c2 m (fun h=>hm' (.inr h)),aP _ _ (fun h=>hm' (.inl h.symm))]
      ·simp only[gS,aq,Bool.and_eq_true] at hn
       have hT':bxT T r=true:=by
        simp only[bxT] at hT
        split at hT
        ·exact hT
        ·simp at hT
       rw[hinst] at hx
       by_cases hr:bC r m=true
       ·exact b3 ef hef hn.2 hT' F' bx' θ' hF hθ hθn _ m x' hr hx
       ·have:n=m:=((cG _ _ _ _).1 hm).resolve_right hr
        subst this
        rw[(b2 ef hef _).2 n hr,ar] at hx
        obtain rfl:=Option.some.inj hx
        refine ⟨g,cs,te,d,by rw[hθ n b (hfind ef hef)];exact q1,q2,by rw[bu,q3,a0],q4,by rw[bu,←a0];exact q5,fun i x v h1 h2=>?_⟩
        exact a4 ef (b1.le_trans hef) hn.1 F' bx' θ' hF i x v h1 (by simpa using h2)
     ·simp at h
   ·simp at h
  ·simp at h
 |(n,.arr t m)::r,e,e',h=>by
  have key:∀(es:List (List C)),gh T bx r ⟨.l es::e.xs,e.r,e.fz⟩=some e'→
    ((∃b v m',e.r.find n=some (some b)∧bx b=some (.arr v t es m')∧mok m m'=true)∨(e.r.find n=some none∧es=[]))→
    e.le e'∧
    (∀ef,e'.le ef→∀f:Bxs,(∀q,bC ((n,.arr t m)::r) q=true→∃x',cd nm0 ef.xs.reverse ((n,.arr t m)::r) e.xs.length f q=some x'∧Shape bx ef.r q x')∧(∀q,¬bC ((n,.arr t m)::r) q=true→cd nm0 ef.xs.reverse ((n,.arr t m)::r) e.xs.length f q=f q))∧
    ∀ef,e'.le ef→gS l ((n,.arr t m)::r)=true→bxT T ((n,.arr t m)::r)=true→∀F' bx' θ',Fin T F w bx θ F' bx' θ' l ef→(∀n b,ef.r.find n=some (some b)→θ' n=θ b)→(∀n,ef.r.find n=some none→θ' n=.slice none 0 0)→∀f:Bxs,∀q x',bC ((n,.arr t m)::r) q=true→cd nm0 ef.xs.reverse ((n,.arr t m)::r) e.xs.length f q=some x'→ic T F' w bx' θ' q x':=by
   intro es h hcase
   obtain ⟨b1,b2,b3⟩:=oT hw r _ e' h
   have hle:e.le e':=(e.push _).le_trans b1
   have hget:∀ef,e'.le ef→ef.xs.reverse.getD e.xs.length .nil=.l es:=fun ef hef=>fp ((b1.le_trans hef).xs)
   have hinst:∀(ef:Ex) (f:Bxs),e'.le ef→cd nm0 ef.xs.reverse ((n,.arr t m)::r) e.xs.length f=cd nm0 ef.xs.reverse r (C.l es::e.xs).length (upd f n (some (.arr 0 t es m))):=by
    intro ef f hef
    show cd nm0 ef.xs.reverse r (e.xs.length+1) (upd f n (some (.arr 0 t (ef.xs.reverse.getD e.xs.length .nil).L m)))=_
    rw[hget ef hef];rfl
   refine ⟨hle,fun ef hef f=>?_,fun ef hef hn hT F' bx' θ' hF hθ hθn f q x' hm hx=>?_⟩
   ·rw[hinst ef f hef]
    obtain ⟨c1,c2⟩:=b2 ef hef (upd f n (some (.arr 0 t es m)))
    refine ⟨fun q hm=>?_,fun q hm=>?_⟩
    ·by_cases hr:bC r q=true
     ·exact c1 q hr
     ·have:n=q:=((cG _ _ _ _).1 hm).resolve_right hr
      subst this
      refine ⟨_,by rw[c2 n hr,ar],rfl,?_⟩
      rcases hcase with ⟨b,v,m',h1,h2,h3⟩|⟨h1,rfl⟩
      ·exact .inl ⟨b,_,(hle.le_trans hef).r _ _ h1,h2,⟨rfl,rfl⟩,h3,fun t' es' h=>by
        simp only[Box.arr.injEq,true_and] at h
        obtain ⟨rfl,rfl,_⟩:=h
        exact ⟨v,rfl⟩⟩
      ·exact .inr ⟨(hle.le_trans hef).r _ _ h1,t,m,rfl⟩
    ·have hm':=fun h=>hm ((cG _ _ _ _).2 h)
     rw[c2 q (fun h=>hm' (.inr h)),aP _ _ (fun h=>hm' (.inl h.symm))]
   ·replace hn:gS l r=true:=hn
    have hT':(∃d,aV T t=some d)∧bxT T r=true:=by
     simp only[bxT] at hT
     split at hT
     ·rename_i d hd;exact ⟨⟨d,hd⟩,hT⟩
     ·simp at hT
    rw[hinst ef f hef] at hx
    by_cases hr:bC r q=true
    ·exact b3 ef hef hn hT'.2 F' bx' θ' hF hθ hθn _ q x' hr hx
    ·have:n=q:=((cG _ _ _ _).1 hm).resolve_right hr
     subst this
     rw[(b2 ef hef _).2 n hr,ar] at hx
     obtain rfl:=Option.some.inj hx
     rcases hcase with ⟨b,v,m',h1,h2,h3⟩|⟨h1,rfl⟩
     ·obtain ⟨d,A,cap,p1,p2,p3,p4⟩:=hw.box b _ h2
      refine ⟨d,A,cap,p1,by rw[hθ n b ((hle.le_trans hef).r _ _ h1)];exact p2,p3,p4.imp id ?_⟩
      rintro ⟨g,o,cs,g1,g2,g3,g4,g5⟩
      exact ⟨g,o,cs,g1,g2,g3,g4,fun i c j x ct v a1 a2 a3 a4=>((g5 i c j x ct v a1 a2 a3 a4).cast h3).mv hF.F (fun _ _=>rfl) fun _ _ _=>rfl⟩
     ·obtain ⟨d,hd⟩:=hT'.1
      exact ⟨d,none,0,hd,by rw[hθn n ((hle.le_trans hef).r _ _ h1)];rfl,fun i c h=>by simp at h,.inl ⟨rfl,rfl,rfl⟩⟩
  replace h:(match e.r.find n with
   |some (some b)=>match bx b with
    |some (.arr _ t' es m')=>sif (aA (Nat.beq t t') (mok m m')) (gh T bx r ⟨.l es::e.xs,e.r,e.fz⟩) none
    |_=>none
   |some none=>gh T bx r ⟨.l []::e.xs,e.r,e.fz⟩
   |none=>none)=some e':=h
  split at h
  ·rename_i b hb
   split at h
   ·rename_i v t' es m' hbb
    cases hc:aA (Nat.beq t t') (mok m m') with
    |false=>simp[hc,sif] at h
    |true=>
     rw[hc,af] at h
     rw[aq,Bool.and_eq_true] at hc
     have e1:=Nat.eq_of_beq_eq_true hc.1;subst e1
     exact key es h (.inl ⟨b,v,m',hb,hbb,hc.2⟩)
   ·simp at h
  ·rename_i hb
   exact key [] h (.inr ⟨hb,rfl⟩)
  ·simp at h
 |(n,.mp t)::r,e,e',h=>by
  have key:∀(es:List (List C)),gh T bx r ⟨.l es::e.xs,e.r,e.fz⟩=some e'→
    (∃b v,e.r.find n=some (some b)∧bx b=some (.mp v t es))→
    e.le e'∧
    (∀ef,e'.le ef→∀f:Bxs,(∀m,bC ((n,.mp t)::r) m=true→∃x',cd nm0 ef.xs.reverse ((n,.mp t)::r) e.xs.length f m=some x'∧Shape bx ef.r m x')∧(∀m,¬bC ((n,.mp t)::r) m=true→cd nm0 ef.xs.reverse ((n,.mp t)::r) e.xs.length f m=f m))∧
    ∀ef,e'.le ef→gS l ((n,.mp t)::r)=true→bxT T ((n,.mp t)::r)=true→∀F' bx' θ',Fin T F w bx θ F' bx' θ' l ef→(∀n b,ef.r.find n=some (some b)→θ' n=θ b)→(∀n,ef.r.find n=some none→θ' n=.slice none 0 0)→∀f:Bxs,∀m x',bC ((n,.mp t)::r) m=true→cd nm0 ef.xs.reverse ((n,.mp t)::r) e.xs.length f m=some x'→ic T F' w bx' θ' m x':=by
   intro es h hcase
   obtain ⟨b1,b2,b3⟩:=oT hw r _ e' h
   have hle:e.le e':=(e.push _).le_trans b1
   have hget:∀ef,e'.le ef→ef.xs.reverse.getD e.xs.length .nil=.l es:=fun ef hef=>fp ((b1.le_trans hef).xs)
   have hinst:∀(ef:Ex) (f:Bxs),e'.le ef→cd nm0 ef.xs.reverse ((n,.mp t)::r) e.xs.length f=cd nm0 ef.xs.reverse r (C.l es::e.xs).length (upd f n (some (.mp 0 t es))):=by
    intro ef f hef
    show cd nm0 ef.xs.reverse r (e.xs.length+1) (upd f n (some (.mp 0 t (ef.xs.reverse.getD e.xs.length .nil).L)))=_
    rw[hget ef hef];rfl
   refine ⟨hle,fun ef hef f=>?_,fun ef hef hn hT F' bx' θ' hF hθ hθn f m x' hm hx=>?_⟩
   ·rw[hinst ef f hef]
    obtain ⟨c1,c2⟩:=b2 ef hef (upd f n (some (.mp 0 t es)))
    refine ⟨fun m hm=>?_,fun m hm=>?_⟩
    ·by_cases hr:bC r m=true
     ·exact c1 m hr
     ·have:n=m:=((cG _ _ _ _).1 hm).resolve_right hr
      subst this
      refine ⟨_,by rw[c2 n hr,ar],rfl,?_⟩
      obtain ⟨b,v,h1,h2⟩:=hcase
      exact .inl ⟨b,_,(hle.le_trans hef).r _ _ h1,h2,rfl,rfl,fun t es h=>by simp at h⟩
    ·have hm':=fun h=>hm ((cG _ _ _ _).2 h)
     rw[c2 m (fun h=>hm' (.inr h)),aP _ _ (fun h=>hm' (.inl h.symm))]
   ·replace hn:gS l r=true:=hn
    replace hT:bxT T r=true:=hT
    rw[hinst ef f hef] at hx
    by_cases hr:bC r m=true
    ·exact b3 ef hef hn hT F' bx' θ' hF hθ hθn _ m x' hr hx
    ·have:n=m:=((cG _ _ _ _).1 hm).resolve_right hr
     subst this
     rw[(b2 ef hef _).2 n hr,ar] at hx
     obtain rfl:=Option.some.inj hx
     obtain ⟨b,v,h1,h2⟩:=hcase
     obtain ⟨q,arr,clk,d,ct,p1,p2,p3,p4,p5⟩:=hw.box b _ h2
     exact ⟨q,arr,clk,d,ct,by rw[hθ n b ((hle.le_trans hef).r _ _ h1)];exact p1,p2,p3,p4,p5⟩
  replace h:(match e.r.find n with
   |some (some b)=>match bx b with
    |some (.mp _ t' es)=>sif (Nat.beq t t') (gh T bx r ⟨.l es::e.xs,e.r,e.fz⟩) none
    |_=>none
   |_=>none)=some e':=h
  split at h
  ·rename_i b hb
   split at h
   ·rename_i v t' es hbb
    cases hc:Nat.beq t t' with
    |false=>simp[hc,sif] at h
    |true=>
     rw[hc,af] at h
     have e1:=Nat.eq_of_beq_eq_true hc;subst e1
     exact key es h ⟨b,v,hb,hbb⟩
   ·simp at h
  ·simp at h
end
end Go.Ev
namespace Go.Ev
section
variable {T:Tys} {fr:Fr} {F:Nat→Prop} {w:World} {bx:Bxs} {θ:Nat→Value}
theorem j7:∀ {r:Ren} {n b:Nat},r.find n=some (some b)→b∈names r
 |[],n,b,h=>by simp[Ren.find] at h
 |(m,c)::r,n,b,h=>by
  rw[iL] at h
  split at h
  ·simp only[Option.some.injEq] at h
   subst h
   simp[names]
  ·have:=j7 h
   cases c<;>simp[names,this]
theorem qq:∀ {r:Ren},bD (names r)=true→∀ {n n' b:Nat},r.find n=some (some b)→r.find n'=some (some b)→n=n'
 |[],hd,n,n',b,h,h'=>by simp[Ren.find] at h
 |(m,c)::r,hd,n,n',b,h,h'=>by
  have hd':bD (names r)=true∧∀b',c=some b'→¬b'∈names r:=by
   cases c with
   |none=>exact ⟨hd,fun _ h=>by simp at h⟩
   |some q=>
    simp only[names,bD,aq,cF,Bool.and_eq_true,Bool.not_eq_true'] at hd
    refine ⟨hd.2,fun b' hb=>?_⟩
    simp only[Option.some.injEq] at hb
    subst hb
    intro hm
    rw[(cA _ _).2 hm] at hd
    simp at hd
  rw[iL] at h h'
  split at h
  ·rename_i e1
   split at h'
   ·rename_i e2;exact e1.symm.trans e2
   ·simp only[Option.some.injEq] at h
    exact absurd (j7 h') (hd'.2 b h)
  ·split at h'
   ·simp only[Option.some.injEq] at h'
    exact absurd (j7 h) (hd'.2 b h')
   ·exact qq hd'.1 h h'
theorem wC {r:Ren}:∀ {l:List Nat},AQ r l=true→∀b,b∈l→¬b∈names r
 |[],h,b,hb=>by simp at hb
 |c::l,h,b,hb=>by
  simp only[AQ,aq,cF,Bool.and_eq_true,Bool.not_eq_true'] at h
  rcases List.mem_cons.1 hb with rfl|hb
  ·intro hm;rw[(cA _ _).2 hm] at h;simp at h
  ·exact wC h.2 b hb
def l9 (θ:Nat→Value) (r:Ren):Nat→Value:=fun n=>match r.find n with|some (some b)=>θ b|_=>.slice none 0 0
def FzF (T:Tys) (F:Nat→Prop) (w:World) (bx:Bxs) (θ:Nat→Value) (fz:List Nat):Nat→Prop:=fun k=>F k∨∃b x,b∈fz∧bx b=some x∧((x.live=true∧bA (θ b)=some k)∨x.nst T w (θ b) k)
structure Inj (T:Tys) (F:Nat→Prop) (w:World) (bx:Bxs) (θ:Nat→Value) (val:Nat→Value) (t:Tm) (e:Ex) (σ:St) (F':Nat→Prop) (θ':Nat→Value):Prop where
 sl:∀d,aj T F' w σ.bx θ' (σ.sl d) (val d)
 box:∀b x,σ.bx b=some x→ic T F' w σ.bx θ' b x
 disj:∀b b' x x' g,σ.bx b=some x→σ.bx b'=some x'→x.live=true→x'.live=true→bA (θ' b)=some g→bA (θ' b')=some g→b=b'
 out:∀n x g,σ.bx n=some x→x.live=true→bA (θ' n)=some g→¬F' g∧∃b y,e.r.find n=some (some b)∧bx b=some y∧y.live=true∧bA (θ b)=some g
 has:∀n,bC t.bx n=true→∃x',σ.bx n=some x'∧Shape bx e.r n x'
 hasnt:∀n x,σ.bx n=some x→bC t.bx n=true
 lin:∀n x,σ.bx n=some x→x.lin T w (θ' n)
 own:∀n x k,σ.bx n=some x→x.nst T w (θ' n) k→(2≤x.m→¬F' k)∧(¬2≤x.m→F' k)∧(∀n' x',σ.bx n'=some x'→x'.live=true→bA (θ' n')≠some k)∧∃b y,e.r.find n=some (some b)∧bx b=some y∧(2≤y.m↔2≤x.m)∧y.nst T w (θ b) k
 odj:∀n n' x x' k,σ.bx n=some x→σ.bx n'=some x'→x.nst T w (θ' n) k→x'.nst T w (θ' n') k→n=n'
theorem Dw {t:Tm} {ρ:ca} {val:Nat→Value} {r0:Ren} {e:Ex} (hw:WR T fr F w bx θ) (hr:∀d,aj T F w bx θ (ρ d) (val d)) (h:t.ext T r0 ⟨ρ,bx⟩=some e):∀n b,r0.find n=some b→e.r.find n=some b:=by
 unfold Tm.ext at h
 split at h
 ·rename_i e1 h1
  split at h
  ·rename_i e2 h2
   cases hc:aA (aA (bxT T t.bx) (aA (nG t.bx t.sl) (gS t.bx t.bx))) (aA (bD (names e2.r)) (AQ e2.r e2.fz)) with
   |false=>simp[hc,sif] at h
   |true=>
    rw[hc,af] at h
    simp only[Option.some.injEq] at h
    subst h
    have a:=(vU (l:=t.bx) (knT hw) hr t.sl _ e1 h1).1
    have b:=(oT (l:=t.bx) hw t.bx e1 e2 h2).1
    exact (a.le_trans b).r
  ·simp at h
 ·simp at h
theorem sG {t:Tm} {ρ:ca} {val:Nat→Value} {r0:Ren} {e:Ex} (hw:WR T fr F w bx θ) (hr:∀d,aj T F w bx θ (ρ d) (val d)) (h:t.ext T r0 ⟨ρ,bx⟩=some e):
  Inj T F w bx θ val t e (t.inj (rev e.xs [])) (FzF T F w bx θ e.fz) (l9 θ e.r):=by
 rw[rev_eq,List.append_nil]
 unfold Tm.ext at h
 split at h
 ·rename_i e1 h1
  split at h
  ·rename_i e2 h2
   cases hc:aA (aA (bxT T t.bx) (aA (nG t.bx t.sl) (gS t.bx t.bx))) (aA (bD (names e2.r)) (AQ e2.r e2.fz)) with
   |false=>simp[hc,sif] at h
   |true=>
    rw[hc,af] at h
    simp only[Option.some.injEq] at h
    subst h
    simp only[aq,Bool.and_eq_true] at hc
    obtain ⟨⟨hT,hn1,hn2⟩,hnd,hfz⟩:=hc
    obtain ⟨a1,a2,a3⟩:=vU (l:=t.bx) (knT hw) hr t.sl _ e1 h1
    obtain ⟨b1,b2,b3⟩:=oT (l:=t.bx) hw t.bx e1 e2 h2
    have hsl:(t.inj e2.xs.reverse).sl=(cg nm0 e2.xs.reverse t.sl 0 fun _=>.un).1:=rfl
    have hbx:(t.inj e2.xs.reverse).bx=cd nm0 e2.xs.reverse t.bx e1.xs.length fun _=>none:=by
     show cd nm0 e2.xs.reverse t.bx (cg nm0 e2.xs.reverse t.sl 0 fun _=>.un).2 _=_
     have:=a2 nm0 e2.xs.reverse (fun _=>.un)
     simp only[List.length_nil] at this
     rw[this]
    obtain ⟨s1,s2⟩:=b2 e2 (Ex.le_refl _) (fun _=>none)
    rw[←hbx] at s1 s2
    have hshape:∀n x,(t.inj e2.xs.reverse).bx n=some x→bC t.bx n=true∧Shape bx e2.r n x:=by
     intro n x hx
     by_cases hh:bC t.bx n=true
     ·obtain ⟨x',h1,h2⟩:=s1 n hh
      rw[hx] at h1;obtain rfl:=Option.some.inj h1
      exact ⟨hh,h2⟩
     ·have:=s2 n hh;rw[hx] at this;simp at this
    have hth:∀n b,e2.r.find n=some (some b)→l9 θ e2.r n=θ b:=fun n b h=>by simp[l9,h]
    have hthn:∀n,e2.r.find n=some none→l9 θ e2.r n=.slice none 0 0:=fun n h=>by simp[l9,h]
    have hF:Fin T F w bx θ (FzF T F w bx θ e2.fz) (t.inj e2.xs.reverse).bx (l9 θ e2.r) t.bx e2:=by
     refine ⟨fun k h=>.inl h,fun b hb x hx hl g hg=>.inr ⟨b,x,hb,hx,.inl ⟨hl,hg⟩⟩,fun b hb ver t' es m hbb hm3=>?_,fun n b hh hf=>?_,fun n hh hf=>?_⟩
     ·by_cases hm0:m=0
      ·subst hm0
       exact mZ (hw.box b _ hbb) (fun k h=>.inl h) fun g hg=>.inr ⟨b,_,hb,hbb,.inl ⟨rfl,hg⟩⟩
      ·obtain ⟨l1,l2⟩:=qw hw hbb hm0 hm3
       refine l1.DW fun k hk=>.inr ⟨b,_,hb,hbb,?_⟩
       exact (l2 k hk).imp (fun h=>⟨rfl,h⟩) fun h=>⟨hm0,h⟩
     ·obtain ⟨x',h1,h2,h3⟩:=s1 n hh
      rcases h3 with ⟨b',x,q1,q2,q3,_⟩|⟨q1,_⟩
      ·rw[hf] at q1
       simp only[Option.some.injEq] at q1
       subst q1
       exact ⟨x,x',q2,h1,h2,q3,hth n b hf⟩
      ·rw[hf] at q1;simp at q1
     ·obtain ⟨x',h1,h2,h3⟩:=s1 n hh
      rcases h3 with ⟨b',x,q1,q2,q3⟩|⟨q1,t',m',rfl⟩
      ·rw[hf] at q1;simp at q1
      ·exact ⟨t',m',h1,hthn n hf⟩
    have hout:∀n x g,(t.inj e2.xs.reverse).bx n=some x→x.live=true→bA (l9 θ e2.r n)=some g→∃b y,e2.r.find n=some (some b)∧bx b=some y∧y.live=true∧bA (θ b)=some g:=by
     intro n x g hx hl hg
     obtain ⟨h1,h2,h3⟩:=hshape n x hx
     rcases h3 with ⟨b,y,q1,q2,q3,_⟩|⟨q1,t',m',rfl⟩
     ·rw[hth n b q1] at hg
      refine ⟨b,y,q1,q2,?_,hg⟩
      cases y<;>cases x<;>simp_all [Box.same,Box.live]
     ·rw[hthn n q1] at hg;simp[bA] at hg
    have hnst:∀n x,(t.inj e2.xs.reverse).bx n=some x→x.m≠0→(∃b y t' es v,e2.r.find n=some (some b)∧bx b=some y∧((2≤y.m↔2≤x.m)∧y.m≠0∧y.m≠3)∧x=.arr 0 t' es x.m∧y=.arr v t' es y.m∧l9 θ e2.r n=θ b)∨l9 θ e2.r n=.slice none 0 0:=by
     intro n x hx hm
     obtain ⟨h1,h2,h3⟩:=hshape n x hx
     rcases h3 with ⟨b,y,q1,q2,q3,q4,q5⟩|⟨q1,t',m',rfl⟩
     ·left
      have hym:=FP q4 hm
      cases x with
      |arr v t' es m=>
       simp only[Box.ver] at h2;subst h2
       obtain ⟨v',hv'⟩:=q5 t' es rfl
       have hm2:=rK q4
       exact ⟨b,y,t',es,v',q1,q2,⟨hm2.1.symm,hym,hm2.2.2⟩,rfl,hv',hth n b q1⟩
      |_=>exact absurd rfl hm
     ·exact .inr (hthn n q1)
    have hnst2:∀n x k,(t.inj e2.xs.reverse).bx n=some x→x.nst T w (l9 θ e2.r n) k→∃b y,e2.r.find n=some (some b)∧bx b=some y∧(2≤y.m↔2≤x.m)∧y.nst T w (θ b) k:=by
     intro n x k hx hk
     have hm:x.m≠0:=by cases x<;>first|exact hk.1|exact hk.elim
     rcases hnst n x hx hm with ⟨b,y,t',es,v,q1,q2,q3,q4,q5,q6⟩|hn
     ·refine ⟨b,y,q1,q2,q3.1,?_⟩
      rw[q4,q6] at hk
      rw[q5];exact ⟨q3.2.1,hk.2⟩
     ·rw[hn] at hk
      cases x<;>first|exact hk.elim|exact absurd hk.2 ra
    refine ⟨?_,?_,?_,?_,fun n hh=>s1 n hh,fun n x hx=>(hshape n x hx).1,fun n x hx=>?_,fun n x k hx hk=>?_,fun n n' x x' k hx hx' hk hk'=>?_⟩
    ·have:=a3 e2 b1 hn1 _ _ _ hF (fun _=>.un) (fun d=>.un _)
     rw[hsl];simpa using this
    ·intro n x hx
     have hh:=(hshape n x hx).1
     rw[hbx] at hx
     have:=b3 e2 (Ex.le_refl _) hn2 hT _ _ _ hF hth hthn (fun _=>none) n x hh hx
     exact this
    ·intro n n' x x' g hx hx' hl hl' hg hg'
     obtain ⟨b,y,q1,q2,q3,q4⟩:=hout n x g hx hl hg
     obtain ⟨b',y',q1',q2',q3',q4'⟩:=hout n' x' g hx' hl' hg'
     have:=hw.disj b b' y y' g q2 q2' q3 q3' q4 q4'
     subst this
     exact qq hnd q1 q1'
    ·intro n x g hx hl hg
     obtain ⟨b,y,q1,q2,q3,q4⟩:=hout n x g hx hl hg
     refine ⟨?_,b,y,q1,q2,q3,q4⟩
     rintro (hF|⟨c,z,c1,c2,⟨c3,c4⟩|c3⟩)
     ·exact (hw.out b y g q2 q3 q4).1 hF
     ·have:=hw.disj b c y z g q2 c2 q3 c3 q4 c4
      subst this
      exact wC hfz b c1 (j7 q1)
     ·exact (hw.own c z g c2 c3).2.2.2.2 b y q2 q3 q4
    ·by_cases hm:x.m=0
     ·cases x<;>first|trivial|exact fun h=>absurd hm h
     ·rcases hnst n x hx hm with ⟨b,y,t',es,v,q1,q2,q3,q4,q5,q6⟩|hn
      ·rw[q4,q6]
       have:=hw.lin b y q2
       rw[q5] at this
       exact fun _=>((this q3.2.1).1 q3.2.2).toM
      ·rw[hn]
       cases x<;>first|trivial|exact fun _=>sa.toM
    ·obtain ⟨b,y,q1,q2,q3,q4⟩:=hnst2 n x k hx hk
     obtain ⟨o1,o2,o3,o4,o5⟩:=hw.own b y k q2 q4
     refine ⟨fun h2=>?_,fun h2=>.inl (o3 fun h=>h2 (q3.1 h)),fun n' x' hx' hl' hg'=>?_,b,y,q1,q2,q3,q4⟩
     ·rintro (h|⟨c,z,c1,c2,⟨c3,c4⟩|c3⟩)
      ·exact o2 (q3.2 h2) h
      ·exact o5 c z c2 c3 c4
      ·have:=hw.odj b c y z k q2 c2 q4 c3
       subst this
       exact wC hfz b c1 (j7 q1)
     ·obtain ⟨b',y',p1,p2,p3,p4⟩:=hout n' x' k hx' hl' hg'
      exact o5 b' y' p2 p3 p4
    ·obtain ⟨b,y,q1,q2,q3,q4⟩:=hnst2 n x k hx hk
     obtain ⟨b',y',p1,p2,p3,p4⟩:=hnst2 n' x' k hx' hk'
     have:=hw.odj b b' y y' k q2 p2 q4 p4
     subst this
     exact qq hnd q1 p1
  ·simp at h
 ·simp at h
theorem Bx (hw:WR T fr F w bx θ) {fz:List Nat}:∀k,FzF T F w bx θ fz k→k<w.heap.size:=by
 rintro k (h|⟨b,x,h1,h2,⟨h3,h4⟩|h3⟩)
 ·exact hw.lt k h
 ·exact (hw.out b x k h2 h3 h4).2.1
 ·exact (hw.own b x k h2 h3).1
theorem BI (hw:WR T fr F w bx θ) {fz:List Nat}:∀k,FzF T F w bx θ fz k→fr.F0 k∨fr.w0.heap.size≤k∨fr.wr k∨fr.nl k:=by
 rintro k (h|⟨b,x,h1,h2,⟨h3,h4⟩|h3⟩)
 ·exact hw.new k h
 ·exact .inr ((hw.out b x k h2 h3 h4).2.2.imp id .inl)
 ·exact .inr (hw.own b x k h2 h3).2.2.2.1
theorem Inj.wr {val:Nat→Value} {t:Tm} {e:Ex} {σ:St} {st:List Nat} (hw:WR T fr F w bx θ) (h:Inj T F w bx θ val t e σ (FzF T F w bx θ e.fz) (l9 θ e.r))
  (hst:∀n,n∈st→∃x,σ.bx n=some x∧(x.ver=0→l9 θ e.r n=fr.θ0 n∧(x.m=2→Hdr fr.w0 w (l9 θ e.r n)))):WR T ⟨fr.w0,fr.wr,fr.F0,fr.θ0,st,fr.nl⟩ (FzF T F w bx θ e.fz) w σ.bx (l9 θ e.r):=by
 refine ⟨h.box,h.disj,fun n x g hx hl hg=>?_,Bx hw,⟨hw.keep.os,hw.keep.tape,hw.keep.output,hw.keep.size,hw.keep.old⟩,fun k hk=>.inl (hw.sub k hk),BI hw,hst,h.lin,fun n x k hx hk=>?_,h.odj,fun k hk=>.inl (hw.nlF k hk)⟩
 ·obtain ⟨h1,b,y,q1,q2,q3,q4⟩:=h.out n x g hx hl hg
  exact ⟨h1,(hw.out b y g q2 q3 q4).2⟩
 ·obtain ⟨h1,h2,h3,b,y,q1,q2,q3,q4⟩:=h.own n x k hx hk
  obtain ⟨o1,o2,o3,o4,o5⟩:=hw.own b y k q2 q4
  exact ⟨o1,h1,h2,o4,h3⟩
theorem qM:∀ {l:List Nat} {n:Nat},n∈l→Ren.find (vt l) n=some (some n)
 |[],n,h=>by simp at h
 |m::r,n,h=>by
  show Ren.find ((m,some m)::vt r) n=_
  rw[iL]
  split
  ·rename_i e;rw[e]
  ·rename_i hne
   rcases List.mem_cons.1 h with rfl|h
   ·exact absurd rfl hne
   ·exact qM h
theorem lh {l:List (Nat×BSk)}:∀ {q:List Nat},lE l q=true→∀n,n∈q→bC l n=true
 |[],h,n,hn=>by simp at hn
 |m::q,h,n,hn=>by
  simp only[lE,aq,Bool.and_eq_true] at h
  rcases List.mem_cons.1 hn with rfl|hn
  ·exact h.1
  ·exact lh h.2 n hn
theorem wE {bx:Bxs}:∀ {q:List Nat},Be bx q=true→∀n,n∈q→∃x,bx n=some x∧x.ver=0∧x.m≠4
 |[],h,n,hn=>by simp at hn
 |m::q,h,n,hn=>by
  simp only[Be,aq,Bool.and_eq_true] at h
  rcases List.mem_cons.1 hn with rfl|hn
  ·have h1:=h.1
   split at h1
   ·rename_i x hx
    simp only[aq,Bool.and_eq_true] at h1
    exact ⟨x,hx,Nat.eq_of_beq_eq_true h1.1,fun e=>by rw[e] at h1;simp[dA] at h1⟩
   ·simp at h1
  ·exact wE h.2 n hn
theorem pF {X:Cx} {fr:Fr} {t:Tm} {σ:St} {f:List C→Out} {r:Out} {a:Act} (hst:fr.st=X.ip) (h:nY X t σ f=some r) (hs:Sim X.T fr X.n σ a w):
  ∃xs,r=f xs∧Sim X.T fr X.n (t.inj xs) a w:=by
 obtain ⟨σs,σb⟩:=σ
 unfold nY at h
 cases hj:sO X t ⟨σs,σb⟩ with
 |false=>simp[hj,sif] at h
 |true=>
  rw[hj,af] at h
  split at h
  ·rename_i xs hxs
   simp only[Option.some.injEq] at h
   subst h
   refine ⟨xs,rfl,?_⟩
   unfold Tm.data at hxs
   split at hxs
   ·rename_i e he
    simp only[Option.some.injEq] at hxs
    subst hxs
    obtain ⟨F,θ,hw,hr,hn,hd⟩:=hs
    simp only[sO,aq,Bool.and_eq_true] at hj
    have hi:=sG hw hr he
    have hle:=Dw hw hr he
    refine ⟨⟨_,_,?_,hi.sl,hn,hd⟩⟩
    have:=hi.wr hw (st:=fr.st) (fun n hn'=>by
     rw[hst] at hn'
     obtain ⟨x,h1,h2,hm4⟩:=wE hj.1 n hn'
     obtain ⟨x',h3,h4⟩:=hi.has n (lh hj.2.1 n hn')
     refine ⟨x',h3,fun _=>?_⟩
     have hf:=hle n _ (qM hn')
     obtain ⟨y,q1,q2⟩:=hw.stay n (by rw[hst];exact hn')
     replace q1:σb n=some y:=q1
     rw[h1] at q1;obtain rfl:=Option.some.inj q1
     simp only[l9,hf]
     refine ⟨(q2 h2).1,fun hm=>(q2 h2).2 ?_⟩
     rcases h4.2 with ⟨b',y',r1,r2,r3,r4,_⟩|⟨r1,_⟩
     ·rw[hf] at r1
      simp only[Option.some.injEq] at r1
      subst r1
      replace r2:σb n=some y':=r2
      rw[h1] at r2;obtain rfl:=Option.some.inj r2
      exact we r4 hm4 hm
     ·rw[hf] at r1;simp at r1)
    exact this
   ·simp at hxs
  ·simp at h
end
end Go.Ev
namespace Go.Ev
section
variable {T:Tys} {F F':Nat→Prop} {w w':World} {bx bx' bo:Bxs} {θ θ' θo:Nat→Value} {nm:Nm}
structure Rnm (F:Nat→Prop) (w:World) (bo:Bxs) (θo:Nat→Value) (nm:Nm) (F':Nat→Prop) (bx':Bxs) (θ':Nat→Value):Prop where
 F:∀k,F k→F' k
 nm:∀n x,bo n=some x→x.ver=0∧∃x',bx' (nm n).1=some x'∧x'.ver=(nm n).2∧x.same x'∧θ' (nm n).1=θo n
mutual
theorem Dq (h:Rnm F w bo θo nm F' bx' θ') (xs:List C):∀(k:Sk) (p:Nat),(k.inst nm xs p).2=(k.inst nm0 xs p).2∧∀v,aj T F w bo θo (k.inst nm0 xs p).1 v→aj T F' w bx' θ' (k.inst nm xs p).1 v
 |.un,p=>⟨rfl,fun v _=>.un v⟩
 |.d t,p=>⟨rfl,fun v hv=>by
  replace hv:aj T F w bo θo (.c t (xs.getD p .nil)) v:=hv
  cases hv with
  |c t x v hr=>exact .c _ _ _ (hr.mv h.F fun _ _=>rfl)⟩
 |.ow n,p=>⟨rfl,fun v hv=>by
  replace hv:aj T F w bo θo (.ow n 0) v:=hv
  cases hv with
  |ow _ _ v x hb hve hs hh=>
   obtain ⟨h0,x',h1,h2,h3,h4⟩:=h.nm n x hb
   obtain ⟨t,es,m,rfl,rfl⟩:=hh h0.symm
   cases x' with
   |arr v' t' es' m'=>simp only[Box.ver] at h2;subst h2;exact .ow _ _ _ _ h1 (Nat.le_refl _) hs fun _=>⟨t',es',m',rfl,h4.symm⟩
   |_=>exact h3.elim⟩
 |.mp n,p=>⟨rfl,fun v hv=>by
  replace hv:aj T F w bo θo (.mp n 0) v:=hv
  cases hv with
  |mp _ _ v x hb hve hs hh=>
   obtain ⟨h0,x',h1,h2,h3,h4⟩:=h.nm n x hb
   obtain ⟨t,es,rfl,rfl⟩:=hh h0.symm
   cases x' with
   |mp v' t' es'=>simp only[Box.ver] at h2;subst h2;exact .mp _ _ _ _ h1 (Nat.le_refl _) hs fun _=>⟨t',es',rfl,h4.symm⟩
   |_=>exact h3.elim⟩
 |.pt n o,p=>⟨rfl,fun v hv=>by
  replace hv:aj T F w bo θo (.pt n 0 o) v:=hv
  cases hv with
  |pt _ _ _ v x hb hve hs hh=>
   obtain ⟨h0,x',h1,h2,h3,h4⟩:=h.nm n x hb
   obtain ⟨t,cells,g,rfl,e1,rfl⟩:=hh h0.symm
   cases x' with
   |var v' t' cells'=>simp only[Box.ver] at h2;subst h2;exact .pt _ _ _ _ _ h1 (Nat.le_refl _) hs fun _=>⟨t',cells',g,rfl,by rw[h4,e1],rfl⟩
   |_=>exact h3.elim⟩
 |.pe n o,p=>⟨rfl,fun v hv=>by
  replace hv:aj T F w bo θo (.pe n 0 (xs.getD p .nil).I o true) v:=hv
  cases hv with
  |pe _ _ ix _ nb v x hb hve hs hh=>
   obtain ⟨h0,x',h1,h2,h3,h4⟩:=h.nm n x hb
   obtain ⟨t,es,m,d,rfl,hd,hc⟩:=hh h0.symm
   cases x' with
   |arr v' t' es' m'=>
    simp only[Box.ver] at h2;subst h2
    obtain ⟨rfl,hl⟩:=h3
    refine .pe _ _ _ _ _ _ _ h1 (Nat.le_refl _) hs fun _=>⟨t,es',m',d,rfl,hd,hc.imp id ?_⟩
    rintro ⟨a,b,g,og,cap,e1,e2⟩
    exact ⟨a,by omega,g,og,cap,by rw[h4,e1,hl],e2⟩
   |_=>exact h3.elim⟩
 |.st ts,p=>⟨rfl,fun v hv=>Hz h.F hv⟩
 |.ag q,p=>by
  obtain ⟨h1,h2⟩:=rM h xs q p
  refine ⟨h1,fun v hv=>?_⟩
  replace hv:aj T F w bo θo (.ag (Sk.insts nm0 xs q p).1 none) v:=hv
  cases hv with
  |ag l _ vs hl _ hr=>exact .ag _ _ _ (by rw[bu,hl,bu]) tA (h2 vs hr)
 |.tu q,p=>by
  obtain ⟨h1,h2⟩:=rM h xs q p
  refine ⟨h1,fun v hv=>?_⟩
  replace hv:aj T F w bo θo (.tu (Sk.insts nm0 xs q p).1) v:=hv
  cases hv with
  |tu l vs hl hr=>exact .tu _ _ (by rw[bu,hl,bu]) (h2 vs hr)
 |.fn f q,p=>by
  obtain ⟨h1,h2⟩:=rM h xs q p
  refine ⟨h1,fun v hv=>?_⟩
  replace hv:aj T F w bo θo (.fn f (Sk.insts nm0 xs q p).1) v:=hv
  cases hv with
  |fn _ l vs hl hr=>exact .fn _ _ _ (by rw[bu,hl,bu]) (h2 vs hr)
theorem rM (h:Rnm F w bo θo nm F' bx' θ') (xs:List C):∀(ks:List Sk) (p:Nat),(Sk.insts nm xs ks p).2=(Sk.insts nm0 xs ks p).2∧
  ∀vs:List Value,(∀(i:Nat) (x:V) (v:Value),(Sk.insts nm0 xs ks p).1[i]?=some x→vs[i]?=some v→aj T F w bo θo x v)→∀(i:Nat) (x:V) (v:Value),(Sk.insts nm xs ks p).1[i]?=some x→vs[i]?=some v→aj T F' w bx' θ' x v
 |[],p=>⟨rfl,fun vs _ i x v hx=>by simp[Sk.insts] at hx⟩
 |k::ks,p=>by
  obtain ⟨h1,h2⟩:=Dq h xs k p
  obtain ⟨h3,h4⟩:=rM h xs ks (k.inst nm xs p).2
  refine ⟨?_,fun vs hr i x v hx hv=>?_⟩
  ·show (Sk.insts nm xs ks (k.inst nm xs p).2).2=(Sk.insts nm0 xs ks (k.inst nm0 xs p).2).2
   rw[h3,h1]
  ·cases i with
   |zero=>
    simp[Sk.insts] at hx
    subst hx
    exact h2 v (hr 0 _ v (by simp[Sk.insts]) hv)
   |succ i=>
    cases vs with
    |nil=>simp at hv
    |cons u us=>
     refine h4 us (fun j y z hy hz=>hr (j+1) y z ?_ (by simpa using hz)) i x v (by simpa [Sk.insts] using hx) (by simpa using hv)
     simp only[Sk.insts,List.getElem?_cons_succ]
     rw[h1] at hy
     exact hy
end
theorem Ay (h:Rnm F w bo θo nm F' bx' θ') (xs:List C):∀(q:List (Nat×Sk)) (p:Nat) (f f':ca),(∀d v,aj T F w bo θo (f d) v→aj T F' w bx' θ' (f' d) v)→
  (cg nm xs q p f').2=(cg nm0 xs q p f).2∧∀d v,aj T F w bo θo ((cg nm0 xs q p f).1 d) v→aj T F' w bx' θ' ((cg nm xs q p f').1 d) v
 |[],p,f,f',hf=>⟨rfl,hf⟩
 |(d,k)::r,p,f,f',hf=>by
  obtain ⟨h1,h2⟩:=Dq (T:=T) h xs k p
  show (cg nm xs r (k.inst nm xs p).2 _).2=(cg nm0 xs r (k.inst nm0 xs p).2 _).2∧∀d' v,aj T F w bo θo ((cg nm0 xs r (k.inst nm0 xs p).2 _).1 d') v→aj T F' w bx' θ' ((cg nm xs r (k.inst nm xs p).2 _).1 d') v
  rw[h1]
  refine Ay h xs r _ _ _ fun d' v hv=>?_
  by_cases hd:d'=d
  ·subst hd
   rw[ar] at hv⊢
   exact h2 v hv
  ·rw[aP _ _ hd] at hv⊢
   exact hf d' v hv
mutual
theorem tY (xs:List C):∀(k:Sk) (p:Nat),k.flat=true→∀v,aj T F w bo θo (k.inst nm0 xs p).1 v→aj T F' w' bx' θ' (k.inst nm xs p).1 v∧(k.inst nm xs p).2=(k.inst nm0 xs p).2
 |.un,p,_,v,_=>⟨.un v,rfl⟩
 |.d t,p,hk,v,hv=>by
  replace hv:aj T F w bo θo (.c t (xs.getD p .nil)) v:=hv
  refine ⟨?_,rfl⟩
  cases hv with
  |c t x v hr=>
   refine .c _ _ _ (hr.flat ?_)
   cases t<;>first|rfl|simp[Sk.flat] at hk
 |.ow n,p,hk,_,_=>by simp[Sk.flat] at hk
 |.mp n,p,hk,_,_=>by simp[Sk.flat] at hk
 |.pt n o,p,hk,_,_=>by simp[Sk.flat] at hk
 |.pe n o,p,hk,_,_=>by simp[Sk.flat] at hk
 |.st ts,p,hk,v,hv=>by
  refine ⟨?_,rfl⟩
  replace hk:bF ts=true:=hk
  replace hv:aj T F w bo θo (.ag (ec ts (xs.getD p .nil).P 0 (len ts)) (some (xs.getD p .nil))) v:=hv
  show aj T F' w' bx' θ' (.ag (ec ts (xs.getD p .nil).P 0 (len ts)) (some (xs.getD p .nil))) v
  cases hv with
  |ag _ _ vs hl ho hr=>
   refine .ag _ _ vs hl ho fun i x v a b=>?_
   have:=hr i x v a b
   obtain ⟨h1,h2⟩:=jP ts (xs.getD p .nil).P (len ts) 0
   have hi:i<len ts:=by rw[←h1];exact (List.getElem?_eq_some_iff.1 a).1
   rw[h2 i hi,Nat.zero_add] at a
   rw[←Option.some.inj a] at this⊢
   rw[cV] at hi
   cases this with
   |c _ _ _ hc=>exact .c _ _ _ (hc.flat (cQ hk _ _ (by rw[List.getD_eq_getElem?_getD,List.getElem?_eq_getElem hi];rfl)))
 |.ag q,p,hk,v,hv=>by
  replace hk:Sk.qQ q=true:=hk
  replace hv:aj T F w bo θo (.ag (Sk.insts nm0 xs q p).1 none) v:=hv
  cases hv with
  |ag l _ vs hl _ hr=>
   obtain ⟨h1,h2⟩:=u5 xs q p hk vs (by rw[hl,bu]) hr
   exact ⟨.ag _ _ _ (by rw[bu,hl,bu]) tA h1,h2⟩
 |.tu q,p,hk,v,hv=>by
  replace hk:Sk.qQ q=true:=hk
  replace hv:aj T F w bo θo (.tu (Sk.insts nm0 xs q p).1) v:=hv
  cases hv with
  |tu l vs hl hr=>
   obtain ⟨h1,h2⟩:=u5 xs q p hk vs (by rw[hl,bu]) hr
   exact ⟨.tu _ _ (by rw[bu,hl,bu]) h1,h2⟩
 |.fn f q,p,hk,_,_=>by simp[Sk.flat] at hk
theorem u5 (xs:List C):∀(ks:List Sk) (p:Nat),Sk.qQ ks=true→∀vs:List Value,vs.length=ks.length→(∀(i:Nat) (x:V) (v:Value),(Sk.insts nm0 xs ks p).1[i]?=some x→vs[i]?=some v→aj T F w bo θo x v)→
  (∀(i:Nat) (x:V) (v:Value),(Sk.insts nm xs ks p).1[i]?=some x→vs[i]?=some v→aj T F' w' bx' θ' x v)∧(Sk.insts nm xs ks p).2=(Sk.insts nm0 xs ks p).2
 |[],p,_,vs,_,_=>⟨fun i x v hx=>by simp[Sk.insts] at hx,rfl⟩
 |k::ks,p,hk,[],hl,hr=>by simp at hl
 |k::ks,p,hk,u::us,hl,hr=>by
  simp only[Sk.qQ,aq,Bool.and_eq_true] at hk
  obtain ⟨h1,h2⟩:=tY xs k p hk.1 u (hr 0 _ u (by simp[Sk.insts]) rfl)
  obtain ⟨h3,h4⟩:=u5 xs ks (k.inst nm0 xs p).2 hk.2 us (by simpa using hl) (fun i x v hx hv=>hr (i+1) x v (by simpa [Sk.insts] using hx) (by simpa using hv))
  refine ⟨fun i x v hx hv=>?_,?_⟩
  ·cases i with
   |zero=>simp[Sk.insts] at hx hv;subst hx;subst hv;exact h1
   |succ i=>
    simp only[Sk.insts,List.getElem?_cons_succ] at hx hv
    rw[h2] at hx
    exact h3 i x v hx hv
  ·show (Sk.insts nm xs ks (k.inst nm xs p).2).2=(Sk.insts nm0 xs ks (k.inst nm0 xs p).2).2
   rw[h2,h4]
end
mutual
theorem wI (nm:Nm) (xs:List C):∀(k:Sk) (p:Nat),(k.inst nm xs p).2=(k.inst nm0 xs p).2
 |.un,_=>rfl
 |.d _,_=>rfl
 |.st _,_=>rfl
 |.ow _,_=>rfl
 |.mp _,_=>rfl
 |.pt _ _,_=>rfl
 |.pe _ _,_=>rfl
 |.ag q,p=>mz nm xs q p
 |.tu q,p=>mz nm xs q p
 |.fn _ q,p=>mz nm xs q p
theorem mz (nm:Nm) (xs:List C):∀(ks:List Sk) (p:Nat),(Sk.insts nm xs ks p).2=(Sk.insts nm0 xs ks p).2
 |[],_=>rfl
 |k::r,p=>by
  show (Sk.insts nm xs r (k.inst nm xs p).2).2=(Sk.insts nm0 xs r (k.inst nm0 xs p).2).2
  rw[wI nm xs k,mz nm xs r]
end
def NmR (bo:Bxs) (θo:Nat→Value) (nm:Nm) (bx':Bxs) (θ':Nat→Value):Prop:=∀n x,bo n=some x→x.ver=0∧∃x',bx' (nm n).1=some x'∧x'.ver=(nm n).2∧x.same x'∧θ' (nm n).1=θo n
mutual
theorem Ck (h:NmR bo θo nm bx' θ') (xs:List C):∀(k:Sk) (p:Nat),k.u7=true→∀v,aj T F w bo θo (k.inst nm0 xs p).1 v→aj T F' w' bx' θ' (k.inst nm xs p).1 v
 |.un,p,_,v,_=>.un v
 |.d t,p,hk,v,hv=>by
  replace hv:aj T F w bo θo (.c t (xs.getD p .nil)) v:=hv
  replace hk:bF [t]=true:=hk
  cases hv with
  |c t x v hr=>exact .c _ _ _ (hr.flat (cQ hk 0 t rfl))
 |.ow n,p,_,v,hv=>by
  replace hv:aj T F w bo θo (.ow n 0) v:=hv
  cases hv with
  |ow _ _ v x hb hve hs hh=>
   obtain ⟨h0,x',h1,h2,h3,h4⟩:=h n x hb
   obtain ⟨t,es,m,rfl,rfl⟩:=hh h0.symm
   cases x' with
   |arr v' t' es' m'=>simp only[Box.ver] at h2;subst h2;exact .ow _ _ _ _ h1 (Nat.le_refl _) hs fun _=>⟨t',es',m',rfl,h4.symm⟩
   |_=>exact h3.elim
 |.mp n,p,hk,_,_=>by simp[Sk.u7] at hk
 |.pt n o,p,hk,_,_=>by simp[Sk.u7] at hk
 |.pe n o,p,hk,_,_=>by simp[Sk.u7] at hk
 |.st ts,p,hk,v,hv=>(tY (nm:=nm) (bx':=bx') (θ':=θ') (F':=F') (w':=w') xs (.st ts) p hk v hv).1
 |.ag q,p,hk,v,hv=>by
  replace hk:Sk.qC q=true:=hk
  replace hv:aj T F w bo θo (.ag (Sk.insts nm0 xs q p).1 none) v:=hv
  cases hv with
  |ag l _ vs hl _ hr=>exact .ag _ _ _ (by rw[bu,hl,bu]) tA (vJ h xs q p hk vs (by rw[hl,bu]) hr)
 |.tu q,p,hk,v,hv=>by
  replace hk:Sk.qC q=true:=hk
  replace hv:aj T F w bo θo (.tu (Sk.insts nm0 xs q p).1) v:=hv
  cases hv with
  |tu l vs hl hr=>exact .tu _ _ (by rw[bu,hl,bu]) (vJ h xs q p hk vs (by rw[hl,bu]) hr)
 |.fn f q,p,hk,_,_=>by simp[Sk.u7] at hk
theorem vJ (h:NmR bo θo nm bx' θ') (xs:List C):∀(ks:List Sk) (p:Nat),Sk.qC ks=true→∀vs:List Value,vs.length=ks.length→(∀(i:Nat) (x:V) (v:Value),(Sk.insts nm0 xs ks p).1[i]?=some x→vs[i]?=some v→aj T F w bo θo x v)→
  ∀(i:Nat) (x:V) (v:Value),(Sk.insts nm xs ks p).1[i]?=some x→vs[i]?=some v→aj T F' w' bx' θ' x v
 |[],p,_,vs,_,_=>fun i x v hx=>by simp[Sk.insts] at hx
 |k::ks,p,hk,[],hl,hr=>by simp at hl
 |k::ks,p,hk,u::us,hl,hr=>by
  simp only[Sk.qC,aq,Bool.and_eq_true] at hk
  have h1:=Ck h xs k p hk.1 u (hr 0 _ u (by simp[Sk.insts]) rfl)
  have h3:=vJ h xs ks (k.inst nm0 xs p).2 hk.2 us (by simpa using hl) (fun i x v hx hv=>hr (i+1) x v (by simpa [Sk.insts] using hx) (by simpa using hv))
  intro i x v hx hv
  cases i with
  |zero=>simp[Sk.insts] at hx hv;subst hx;subst hv;exact h1
  |succ i=>
   simp only[Sk.insts,List.getElem?_cons_succ] at hx hv
   rw[wI nm xs k] at hx
   exact h3 i x v hx hv
end
theorem gk {f:Bxs}:∀ {l:List (Nat×Box)} {b:Nat},¬b∈bN l→dg f l b=f b
 |[],b,_=>rfl
 |(c,x)::r,b,h=>by
  simp only[bN,List.mem_cons,not_or] at h
  show dg (upd f c (some x)) r b=f b
  rw[gk h.2,aP _ _ h.1]
theorem mw {f:Bxs}:∀ {l:List (Nat×Box)} {b:Nat} {x:Box},bD (bN l)=true→(b,x)∈l→dg f l b=some x
 |[],b,x,_,h=>by simp at h
 |(c,y)::r,b,x,hd,h=>by
  simp only[bN,bD,aq,cF,Bool.and_eq_true,Bool.not_eq_true'] at hd
  show dg (upd f c (some y)) r b=some x
  rcases List.mem_cons.1 h with e|h
  ·simp only[Prod.mk.injEq] at e
   obtain ⟨rfl,rfl⟩:=e
   rw[gk (fun hm=>by rw[(cA _ _).2 hm] at hd;simp at hd),ar]
  ·exact mw hd.2 h
theorem n9:∀ {l:List (Nat×Box)} {b:Nat},b∈bN l↔∃x,(b,x)∈l
 |[],b=>by simp[bN]
 |(c,y)::r,b=>by
  simp only[bN,List.mem_cons,n9 (l:=r),Prod.mk.injEq]
  constructor
  ·rintro (rfl|⟨x,hx⟩)
   ·exact ⟨y,.inl ⟨rfl,rfl⟩⟩
   ·exact ⟨x,.inr hx⟩
  ·rintro ⟨x,⟨rfl,rfl⟩|hx⟩
   ·exact .inl rfl
   ·exact .inr ⟨x,hx⟩
theorem ru (l m:List (Nat×Box)):bN (l++m)=bN l++bN m:=by induction l with|nil=>rfl|cons p r ih=>obtain ⟨b,x⟩:=p;simp[bN,ih]
def Two (tr:Nat→Bool) (nm:Nm) (xs:List C) (n:Nat) (k:BSk) (x x':Box):Prop:=
 x.ver=0∧x'.ver=(nm n).2∧((∃t ks p,k=.var t ks∧x=.var 0 t (Sk.insts nm0 xs ks p).1∧x'=.var (nm n).2 t (Sk.insts nm xs ks p).1)∨(∃t es m,k=.arr t m∧x=.arr 0 t es m∧x'=.arr (nm n).2 t es (o6 (tr t) m))∨∃t es,k=.mp t∧x=.mp 0 t es∧x'=.mp (nm n).2 t es)
theorem zx (tr:Nat→Bool) (nm:Nm) (xs:List C):∀(q:List (Nat×BSk)) (p:Nat) (f:Bxs),bD (bN (iQ tr nm xs q p))=true→
  (∀n,bC q n=true→∃k x x',(n,k)∈q∧cd nm0 xs q p f n=some x∧((nm n).1,x')∈iQ tr nm xs q p∧Two tr nm xs n k x x')∧
  (∀n,¬bC q n=true→cd nm0 xs q p f n=f n)∧
  (∀b x',(b,x')∈iQ tr nm xs q p→∃n,bC q n=true∧b=(nm n).1)
 |[],p,f,_=>⟨fun n h=>by simp[bC] at h,fun n _=>rfl,fun b x' h=>by simp[iQ] at h⟩
 |(m,bk)::r,p,f,hd=>by
  have key:∀(y y':Box) (p2:Nat),(cd nm0 xs ((m,bk)::r) p f=cd nm0 xs r p2 (upd f m (some y)))→(iQ tr nm xs ((m,bk)::r) p=((nm m).1,y')::iQ tr nm xs r p2)→Two tr nm xs m bk y y'→
    (∀n,bC ((m,bk)::r) n=true→∃k x x',(n,k)∈(m,bk)::r∧cd nm0 xs ((m,bk)::r) p f n=some x∧((nm n).1,x')∈iQ tr nm xs ((m,bk)::r) p∧Two tr nm xs n k x x')∧
    (∀n,¬bC ((m,bk)::r) n=true→cd nm0 xs ((m,bk)::r) p f n=f n)∧
    (∀b x',(b,x')∈iQ tr nm xs ((m,bk)::r) p→∃n,bC ((m,bk)::r) n=true∧b=(nm n).1):=by
   intro y y' p2 h1 h2 h3
   rw[h2] at hd
   simp only[bN,bD,aq,cF,Bool.and_eq_true,Bool.not_eq_true'] at hd
   obtain ⟨i1,i2,i3⟩:=zx tr nm xs r p2 (upd f m (some y)) hd.2
   rw[h1,h2]
   refine ⟨fun n hn=>?_,fun n hn=>?_,fun b x' hm=>?_⟩
   ·by_cases hr:bC r n=true
    ·obtain ⟨k,x,x',q1,q2,q3,q4⟩:=i1 n hr
     exact ⟨k,x,x',List.mem_cons_of_mem _ q1,q2,List.mem_cons_of_mem _ q3,q4⟩
    ·have:m=n:=((cG _ _ _ _).1 hn).resolve_right hr
     subst this
     exact ⟨bk,y,y',List.mem_cons_self ..,by rw[i2 m hr,ar],List.mem_cons_self ..,h3⟩
   ·have hn':=fun h=>hn ((cG _ _ _ _).2 h)
    rw[i2 n (fun h=>hn' (.inr h)),aP _ _ (fun h=>hn' (.inl h.symm))]
   ·rcases List.mem_cons.1 hm with e|hm
    ·simp only[Prod.mk.injEq] at e
     exact ⟨m,(cG _ _ _ _).2 (.inl rfl),e.1⟩
    ·obtain ⟨n,hn,hb⟩:=i3 b x' hm
     exact ⟨n,(cG _ _ _ _).2 (.inr hn),hb⟩
  cases bk with
  |var t ks=>
   refine key (.var 0 t (Sk.insts nm0 xs ks p).1) (.var (nm m).2 t (Sk.insts nm xs ks p).1) (Sk.insts nm xs ks p).2 ?_ rfl ⟨rfl,rfl,.inl ⟨t,ks,p,rfl,rfl,rfl⟩⟩
   show cd nm0 xs r (Sk.insts nm0 xs ks p).2 _=_
   rw[mz nm];rfl
  |arr t md=>exact key (.arr 0 t (xs.getD p .nil).L md) (.arr (nm m).2 t (xs.getD p .nil).L (o6 (tr t) md)) (p+1) rfl rfl ⟨rfl,rfl,.inr (.inl ⟨t,_,md,rfl,rfl,rfl⟩)⟩
  |mp t=>exact key (.mp 0 t (xs.getD p .nil).L) (.mp (nm m).2 t (xs.getD p .nil).L) (p+1) rfl rfl ⟨rfl,rfl,.inr (.inr ⟨t,_,rfl,rfl,rfl⟩)⟩
theorem wq (nm:Nm) (xs:List C):∀(q:List (Nat×Sk)) (p:Nat) (f f':ca),(cg nm xs q p f).2=(cg nm0 xs q p f').2
 |[],p,f,f'=>rfl
 |(d,k)::r,p,f,f'=>by
  show (cg nm xs r (k.inst nm xs p).2 _).2=(cg nm0 xs r (k.inst nm0 xs p).2 _).2
  rw[wI nm xs k]
  exact wq nm xs r _ _ _
theorem wh {bx:Bxs} {out:List (Nat×BSk)}:∀ {r:Ren},(∀n b,r.find n=some (some b)→¬bC out n=true→∃x,(b,Box.dead x)∈lF bx out r)∧
  ∀b x,(b,x)∈lF bx out r→∃v,x=.dead v∧(∀y,bx b=some y→y.ver<v)
 |[]=>⟨fun n b h=>by simp[Ren.find] at h,fun b x h=>by simp[lF] at h⟩
 |(m,none)::r=>by
  obtain ⟨h1,h2⟩:=wh (bx:=bx) (out:=out) (r:=r)
  refine ⟨fun n b h hn=>?_,h2⟩
  rw[iL] at h
  split at h
  ·simp at h
  ·exact h1 n b h hn
 |(m,some c)::r=>by
  obtain ⟨h1,h2⟩:=wh (bx:=bx) (out:=out) (r:=r)
  cases ho:bC out m with
  |true=>
   have e:lF bx out ((m,some c)::r)=lF bx out r:=by simp[lF,ho,sif]
   rw[e]
   refine ⟨fun n b h hn=>?_,h2⟩
   rw[iL] at h
   split at h
   ·rename_i e;subst e;exact absurd ho hn
   ·exact h1 n b h hn
  |false=>
   have e:lF bx out ((m,some c)::r)=(c,.dead ((match bx c with|some x=>x.ver|none=>0)+1))::lF bx out r:=by
    show sif (bC out m) _ _=_
    rw[ho];rfl
   rw[e]
   refine ⟨fun n b h hn=>?_,fun b x h=>?_⟩
   ·rw[iL] at h
    split at h
    ·simp only[Option.some.injEq] at h;subst h;exact ⟨_,List.mem_cons_self ..⟩
    ·obtain ⟨x,hx⟩:=h1 n b h hn
     exact ⟨x,List.mem_cons_of_mem _ hx⟩
   ·rcases List.mem_cons.1 h with e|h
    ·simp only[Prod.mk.injEq] at e
     obtain ⟨rfl,rfl⟩:=e
     exact ⟨_,rfl,fun y hy=>by rw[hy];exact Nat.lt_succ_self _⟩
    ·exact h2 b x h
end
end Go.Ev
namespace Go.Ev
section
variable {P:Program} {T:Tys} {fr:Fr} {F F':Nat→Prop} {w w':World} {bx:Bxs} {θ θ':Nat→Value}
def WrF (T:Tys) (w:World) (bx:Bxs) (θ:Nat→Value) (r:Ren):Nat→Prop:=fun g=>∃n b y,r.find n=some (some b)∧bx b=some y∧((y.live=true∧bA (θ b)=some g)∨(2≤y.m∧y.nst T w (θ b) g))
def NlF (T:Tys) (w:World) (bx:Bxs) (θ:Nat→Value) (r:Ren):Nat→Prop:=fun g=>∃n b y,r.find n=some (some b)∧bx b=some y∧¬2≤y.m∧y.nst T w (θ b) g
theorem qk (hw:WR T fr F w bx θ) {r:Ren} {ups:List (Nat×Box)} (hnd:bD (bN ups)=true)
  (kos:w'.os=w.os) (ktp:w'.tape=w.tape) (kou:w'.output=w.output∧w.drawn≤w'.drawn) (ksz:w.heap.size≤w'.heap.size) (kold:∀k,k<w.heap.size→¬WrF T w bx θ r k→w'.heap[k]?=w.heap[k]?)
  (H1:∀b,¬b∈bN ups→θ' b=θ b) (H2:∀n b,r.find n=some (some b)→b∈bN ups)
  (H3:∀b x,(b,x)∈ups→x.live=true→ic T F' w' (dg bx ups) θ' b x∧∀g,bA (θ' b)=some g→¬F' g∧g<w'.heap.size∧(w.heap.size≤g∨WrF T w bx θ r g))
  (H4:∀b x y,(b,x)∈ups→bx b=some y→y.ver≤x.ver∧(y.ver=x.ver→y.same x∧θ' b=θ b∧(x.m=2→y.m=2∧Hdr w w' (θ b))))
  (H5:∀b b' x x' g,(b,x)∈ups→(b',x')∈ups→x.live=true→x'.live=true→bA (θ' b)=some g→bA (θ' b')=some g→b=b')
  (H6:∀b x,(b,x)∈ups→x.lin T w' (θ' b)∧∀k,x.nst T w' (θ' b) k→k<w'.heap.size∧(2≤x.m→¬F' k)∧(¬2≤x.m→F' k)∧(w.heap.size≤k∨WrF T w bx θ r k∨NlF T w bx θ r k)∧∀b' x',(b',x')∈ups→x'.live=true→bA (θ' b')≠some k)
  (H7:∀b b' x x' k,(b,x)∈ups→(b',x')∈ups→x.nst T w' (θ' b) k→x'.nst T w' (θ' b') k→b=b')
  (c1:∀k,F k→F' k) (c2:∀k,F' k→F k∨w.heap.size≤k∨WrF T w bx θ r k) (c3:∀k,F' k→k<w'.heap.size):
  WR T fr F' w' (dg bx ups) θ'∧Mv F w bx θ F' w' (dg bx ups) θ':=by
 have hFw:∀k,F k→¬WrF T w bx θ r k:=by
  rintro k hk ⟨n,b,y,h1,h2,⟨h3,h4⟩|⟨h3,h4⟩⟩
  ·exact (hw.out b y k h2 h3 h4).1 hk
  ·exact (hw.own b y k h2 h4).2.1 h3 hk
 have hold:∀b y,¬b∈bN ups→bx b=some y→y.live=true→∀g,bA (θ b)=some g→¬WrF T w bx θ r g:=by
  rintro b y hb hy hl g hg ⟨n,c,z,h1,h2,⟨h3,h4⟩|⟨h3,h4⟩⟩
  ·have:=hw.disj b c y z g hy h2 hl h3 hg h4
   subst this
   exact hb (H2 n b h1)
  ·exact (hw.own c z g h2 h4).2.2.2.2 b y hy hl hg
 have holdN:∀b y,¬b∈bN ups→bx b=some y→∀k,y.nst T w (θ b) k→¬WrF T w bx θ r k∧¬NlF T w bx θ r k:=by
  intro b y hb hy k hk
  constructor
  ·rintro ⟨n,c,z,h1,h2,⟨h3,h4⟩|⟨h3,h4⟩⟩
   ·exact (hw.own b y k hy hk).2.2.2.2 c z h2 h3 h4
   ·have:=hw.odj b c y z k hy h2 hk h4
    subst this
    exact hb (H2 n b h1)
  ·rintro ⟨n,c,z,h1,h2,h3,h4⟩
   have:=hw.odj b c y z k hy h2 hk h4
   subst this
   exact hb (H2 n b h1)
 have hkb:∀b y,¬b∈bN ups→bx b=some y→∀g,bA (θ b)=some g→y.live=true→w'.heap[g]?=w.heap[g]?:=fun b y hb hy g hg hl=>kold g (hw.out b y g hy hl hg).2.1 (hold b y hb hy hl g hg)
 have hkn:∀b y,¬b∈bN ups→bx b=some y→∀k,y.nst T w (θ b) k→w'.heap[k]?=w.heap[k]?:=fun b y hb hy k hk=>kold k (hw.own b y k hy hk).1 (holdN b y hb hy k hk).1
 have m:Mv F w bx θ F' w' (dg bx ups) θ':=by
  refine ⟨c1,fun k hk=>kold k (hw.lt k hk) (hFw k hk),fun b x hx=>?_⟩
  by_cases hb:b∈bN ups
  ·obtain ⟨x',hx'⟩:=n9.1 hb
   exact ⟨x',mw hnd hx',H4 b x' x hx' hx⟩
  ·refine ⟨x,by rw[gk hb];exact hx,Nat.le_refl _,fun _=>⟨x.jF,H1 b hb,fun h=>⟨h,?_⟩⟩⟩
   have hm:x.m=2:=h
   intro g o n cap e p A l c hc
   have hl:x.live=true:=by cases x<;>first|rfl|simp[Box.m] at hm
   rw[fv (hkb b x hb hx g (by rw[e];rfl) hl)];exact hc
 have hget:∀b x,dg bx ups b=some x→(b,x)∈ups∨(¬b∈bN ups∧bx b=some x):=by
  intro b x hx
  by_cases hb:b∈bN ups
  ·obtain ⟨x',hx'⟩:=n9.1 hb
   rw[mw hnd hx'] at hx
   obtain rfl:=Option.some.inj hx
   exact .inl hx'
  ·exact .inr ⟨hb,by rw[gk hb] at hx;exact hx⟩
 have hwr:∀g,WrF T w bx θ r g→fr.w0.heap.size≤g∨fr.wr g:=by
  rintro g ⟨n,b,y,h1,h2,⟨h3,h4⟩|⟨h3,h4⟩⟩
  ·exact (hw.out b y g h2 h3 h4).2.2
  ·obtain ⟨_,q2,_,q4,_⟩:=hw.own b y g h2 h4
   rcases q4 with q|q|q
   ·exact .inl q
   ·exact .inr q
   ·exact absurd (hw.nlF g q) (q2 h3)
 have hback:∀b y k,¬b∈bN ups→bx b=some y→y.live=true→y.nst T w' (θ b) k→y.nst T w (θ b) k:=fun b y k hb hy hl hk=>ym hk (fun g hg=>hkb b y hb hy g hg hl) (hkn b y hb hy)
 have hlive:∀(x:Box) {w:World} {v:Value} {k:Nat},x.nst T w v k→x.live=true:=fun x w v k h=>by cases x<;>first|rfl|exact h.elim
 refine ⟨⟨?_,?_,?_,c3,?_,fun k hk=>c1 k (hw.sub k hk),?_,pM hw.stay m,?_,?_,?_,fun k hk=>c1 k (hw.nlF k hk)⟩,m⟩
 ·intro b x hx
  rcases hget b x hx with h|⟨hb,h⟩
  ·cases hl:x.live with
   |true=>exact (H3 b x h hl).1
   |false=>cases x<;>first|trivial|simp[Box.live] at hl
  ·cases hl:x.live with
   |true=>exact (hw.box b x h).mv m (H1 b hb) (fun g hg=>hkb b x hb h g hg hl) (hkn b x hb h)
   |false=>cases x<;>first|trivial|simp[Box.live] at hl
 ·intro b b' x x' g hx hx' hl hl' hg hg'
  rcases hget b x hx with h|⟨hb,h⟩
  ·rcases hget b' x' hx' with h'|⟨hb',h'⟩
   ·exact H5 b b' x x' g h h' hl hl' hg hg'
   ·rw[H1 b' hb'] at hg'
    rcases ((H3 b x h hl).2 g hg).2.2 with q|q
    ·have:=(hw.out b' x' g h' hl' hg').2.1;omega
    ·exact absurd q (hold b' x' hb' h' hl' g hg')
  ·rw[H1 b hb] at hg
   rcases hget b' x' hx' with h'|⟨hb',h'⟩
   ·rcases ((H3 b' x' h' hl').2 g hg').2.2 with q|q
    ·have:=(hw.out b x g h hl hg).2.1;omega
    ·exact absurd q (hold b x hb h hl g hg)
   ·rw[H1 b' hb'] at hg'
    exact hw.disj b b' x x' g h h' hl hl' hg hg'
 ·intro b x g hx hl hg
  rcases hget b x hx with h|⟨hb,h⟩
  ·obtain ⟨q1,q2,q3⟩:=(H3 b x h hl).2 g hg
   refine ⟨q1,q2,?_⟩
   rcases q3 with q|q
   ·exact .inl (Nat.le_trans hw.keep.size q)
   ·exact hwr g q
  ·rw[H1 b hb] at hg
   obtain ⟨q1,q2,q3⟩:=hw.out b x g h hl hg
   refine ⟨fun hF=>?_,by omega,q3⟩
   rcases c2 g hF with q|q|q
   ·exact q1 q
   ·omega
   ·exact hold b x hb h hl g hg q
 ·refine hw.keep.next kos ktp kou ksz fun k h1 h2=>kold k (Nat.lt_of_lt_of_le h1 hw.keep.size) fun h=>?_
  rcases hwr k h with q|q
  ·omega
  ·exact h2 q
 ·intro k hk
  rcases c2 k hk with q|q|q
  ·exact hw.new k q
  ·exact .inr (.inl (Nat.le_trans hw.keep.size q))
  ·exact .inr ((hwr k q).imp id .inl)
 ·intro b x hx
  rcases hget b x hx with h|⟨hb,h⟩
  ·exact (H6 b x h).1
  ·rw[H1 b hb]
   cases hl:x.live with
   |true=>exact yq (hw.lin b x h) (fun g hg=>hkb b x hb h g hg hl) (hkn b x hb h)
   |false=>cases x<;>first|trivial|simp[Box.live] at hl
 ·intro b x k hx hk
  rcases hget b x hx with h|⟨hb,h⟩
  ·obtain ⟨q1,q2,q3,q4,q5⟩:=(H6 b x h).2 k hk
   refine ⟨q1,q2,q3,?_,fun b' x' hx' hl'=>?_⟩
   ·rcases q4 with q|q|⟨n,c,z,h1,h2,h3,h4⟩
    ·exact .inl (Nat.le_trans hw.keep.size q)
    ·exact (hwr k q).imp id .inl
    ·exact (hw.own c z k h2 h4).2.2.2.1
   ·rcases hget b' x' hx' with h'|⟨hb',h'⟩
    ·exact q5 b' x' h' hl'
    ·rw[H1 b' hb']
     intro hg
     rcases q4 with q|q|⟨n,c,z,h1,h2,h3,h4⟩
     ·have:=(hw.out b' x' k h' hl' hg).2.1;omega
     ·exact hold b' x' hb' h' hl' k hg q
     ·exact (hw.own c z k h2 h4).2.2.2.2 b' x' h' hl' hg
  ·rw[H1 b hb] at hk
   have hk0:=hback b x k hb h (hlive _ hk) hk
   obtain ⟨q1,q2,q3,q4,q5⟩:=hw.own b x k h hk0
   refine ⟨by omega,fun hm hF=>?_,fun hm=>c1 k (q3 hm),q4,fun b' x' hx' hl' hg=>?_⟩
   ·rcases c2 k hF with q|q|q
    ·exact q2 hm q
    ·omega
    ·exact (holdN b x hb h k hk0).1 q
   ·rcases hget b' x' hx' with h'|⟨hb',h'⟩
    ·rcases ((H3 b' x' h' hl').2 k hg).2.2 with q|q
     ·omega
     ·exact (holdN b x hb h k hk0).1 q
    ·rw[H1 b' hb'] at hg
     exact q5 b' x' h' hl' hg
 ·intro b b' x x' k hx hx' hk hk'
  have cross:∀b b' x x',(b,x)∈ups→x.nst T w' (θ' b) k→¬b'∈bN ups→bx b'=some x'→x'.nst T w' (θ' b') k→False:=by
   intro b b' x x' h hk hb' h' hk'
   rw[H1 b' hb'] at hk'
   have hk0:=hback b' x' k hb' h' (hlive _ hk') hk'
   obtain ⟨n1,n2⟩:=holdN b' x' hb' h' k hk0
   rcases ((H6 b x h).2 k hk).2.2.2.1 with q|q|q
   ·have:=(hw.own b' x' k h' hk0).1;omega
   ·exact n1 q
   ·exact n2 q
  rcases hget b x hx with h|⟨hb,h⟩
  ·rcases hget b' x' hx' with h'|⟨hb',h'⟩
   ·exact H7 b b' x x' k h h' hk hk'
   ·exact (cross b b' x x' h hk hb' h' hk').elim
  ·rcases hget b' x' hx' with h'|⟨hb',h'⟩
   ·exact (cross b' b x' x h' hk' hb h hk).elim
   ·rw[H1 b hb] at hk
    rw[H1 b' hb'] at hk'
    exact hw.odj b b' x x' k h h' (hback b x k hb h (hlive _ hk) hk) (hback b' x' k hb' h' (hlive _ hk') hk')
theorem Cu {vs:List V} {us:List Value} (hl:us.length=vs.length) (hr:∀(i:Nat) (x:V) (v:Value),vs[i]?=some x→us[i]?=some v→aj T F w bx θ x v):∀d,aj T F w bx θ (slotsOf vs d) (us.getD d undef):=by
 intro d
 unfold slotsOf
 rw[qI]
 simp only[List.getD_eq_getElem?_getD]
 rcases Nat.lt_or_ge d vs.length with h|h
 ·rw[List.getElem?_eq_getElem h,List.getElem?_eq_getElem (by omega)]
  exact hr d _ _ (List.getElem?_eq_getElem h) (List.getElem?_eq_getElem (by omega))
 ·rw[List.getElem?_eq_none h,List.getElem?_eq_none (by omega)]
  exact .un _
theorem xF {n:Nat} {k:BSk}:∀ {l:List (Nat×BSk)},typed n k l=true→∀k',(n,k')∈l→j4 k k'=true
 |[],_,k',h=>by simp at h
 |(m,q)::r,ht,k',h=>by
  simp only[typed,aq,jw,cF,Bool.and_eq_true,Bool.or_eq_true,Bool.not_eq_true'] at ht
  rcases List.mem_cons.1 h with e|h
  ·simp only[Prod.mk.injEq] at e
   obtain ⟨rfl,rfl⟩:=e
   rcases ht.1 with q|q
   ·rw[Nat.beq_refl] at q;simp at q
   ·exact q
  ·exact xF ht.2 k' h
theorem xn {inB:List (Nat×BSk)} {ip:List Nat}:∀ {out:List (Nat×BSk)},xl inB ip out=true→∀n k k',n∈ip→(n,k)∈out→(n,k')∈inB→j4 k k'=true
 |[],_,n,k,k',_,h,_=>by simp at h
 |(m,q)::r,ht,n,k,k',hi,h,hin=>by
  simp only[xl,aq,jw,cF,Bool.and_eq_true,Bool.or_eq_true,Bool.not_eq_true'] at ht
  rcases List.mem_cons.1 h with e|h
  ·simp only[Prod.mk.injEq] at e
   obtain ⟨rfl,rfl⟩:=e
   rcases ht.1 with q|q
   ·rw[(cA _ _).2 hi] at q;simp at q
   ·exact xF q k' hin
  ·exact xn ht.2 n k k' hi h hin
theorem kc (xs:List C):∀(q:List (Nat×BSk)) (p:Nat) (f:Bxs) (n:Nat) (x:Box),bC q n=true→cd nm0 xs q p f n=some x→
  ∃k,(n,k)∈q∧((∃t ks cells,k=.var t ks∧x=.var 0 t cells)∨(∃t es m,k=.arr t m∧x=.arr 0 t es m)∨∃t es,k=.mp t∧x=.mp 0 t es)
 |[],p,f,n,x,h,_=>by simp[bC] at h
 |(m,bk)::r,p,f,n,x,h,hx=>by
  by_cases hr:bC r n=true
  ·cases bk with
   |var t ks=>
    obtain ⟨k,h1,h2⟩:=kc xs r _ _ n x hr (show cd nm0 xs r (Sk.insts nm0 xs ks p).2 _ n=some x from hx)
    exact ⟨k,List.mem_cons_of_mem _ h1,h2⟩
   |arr t md=>
    obtain ⟨k,h1,h2⟩:=kc xs r _ _ n x hr (show cd nm0 xs r (p+1) _ n=some x from hx)
    exact ⟨k,List.mem_cons_of_mem _ h1,h2⟩
   |mp t=>
    obtain ⟨k,h1,h2⟩:=kc xs r _ _ n x hr (show cd nm0 xs r (p+1) _ n=some x from hx)
    exact ⟨k,List.mem_cons_of_mem _ h1,h2⟩
  ·have hm:m=n:=((cG _ _ _ _).1 h).resolve_right hr
   subst hm
   have hno:∀(l:List (Nat×BSk)) (p:Nat) (f:Bxs),¬bC l m=true→cd nm0 xs l p f m=f m:=by
    intro l
    induction l with
    |nil=>intro p f _;rfl
    |cons a r ih=>
     obtain ⟨c,bk⟩:=a
     intro p f hn
     have hn':=fun h=>hn ((cG _ _ _ _).2 h)
     cases bk with
     |var t ks=>
      show cd nm0 xs r (Sk.insts nm0 xs ks p).2 _ m=_
      exact (ih _ _ (fun h=>hn' (.inr h))).trans (aP f (d:=c) _ (fun h=>hn' (.inl h.symm)))
     |arr t md=>
      show cd nm0 xs r (p+1) _ m=_
      exact (ih _ _ (fun h=>hn' (.inr h))).trans (aP f (d:=c) _ (fun h=>hn' (.inl h.symm)))
     |mp t=>
      show cd nm0 xs r (p+1) _ m=_
      exact (ih _ _ (fun h=>hn' (.inr h))).trans (aP f (d:=c) _ (fun h=>hn' (.inl h.symm)))
   cases bk with
   |var t ks=>
    replace hx:cd nm0 xs r (Sk.insts nm0 xs ks p).2 (upd f m (some (.var 0 t (Sk.insts nm0 xs ks p).1))) m=some x:=hx
    rw[hno r _ _ hr,ar] at hx
    obtain rfl:=Option.some.inj hx
    exact ⟨_,List.mem_cons_self ..,.inl ⟨t,ks,_,rfl,rfl⟩⟩
   |arr t md=>
    replace hx:cd nm0 xs r (p+1) (upd f m (some (.arr 0 t (xs.getD p .nil).L md))) m=some x:=hx
    rw[hno r _ _ hr,ar] at hx
    obtain rfl:=Option.some.inj hx
    exact ⟨_,List.mem_cons_self ..,.inr (.inl ⟨t,_,md,rfl,rfl⟩)⟩
   |mp t=>
    replace hx:cd nm0 xs r (p+1) (upd f m (some (.mp 0 t (xs.getD p .nil).L))) m=some x:=hx
    rw[hno r _ _ hr,ar] at hx
    obtain rfl:=Option.some.inj hx
    exact ⟨_,List.mem_cons_self ..,.inr (.inr ⟨t,_,rfl,rfl⟩)⟩
end
end Go.Ev
namespace Go.Ev
section
variable {P:Program} {T:Tys} {fr:Fr} {F:Nat→Prop} {w:World} {bx:Bxs} {θ:Nat→Value}
theorem zm {l m:List Nat} (h:bD (l++m)=true):bD l=true:=by
 induction l with
 |nil=>rfl
 |cons a r ih=>
  simp only[List.cons_append,bD,aq,cF,Bool.and_eq_true,Bool.not_eq_true'] at h⊢
  refine ⟨?_,ih h.2⟩
  cases hm:cJ r a with
  |false=>rfl
  |true=>
   have:a∈r++m:=List.mem_append_left _ ((cA _ _).1 hm)
   rw[(cA _ _).2 this] at h
   simp at h
theorem pR {tr:Nat→Bool} {nm:Nm} {xs:List C}:∀ {q:List (Nat×BSk)} {p:Nat} {n:Nat},bC q n=true→(nm n).1∈bN (iQ tr nm xs q p)
 |[],p,n,h=>by simp[bC] at h
 |(m,k)::r,p,n,h=>by
  rcases (cG _ _ _ _).1 h with rfl|h2
  ·cases k<;>exact List.mem_cons_self ..
  ·cases k<;>exact List.mem_cons_of_mem _ (pR h2)
theorem xE {tr:Nat→Bool} {nm:Nm} {xs:List C}:∀ {q:List (Nat×BSk)} {p:Nat},bD (bN (iQ tr nm xs q p))=true→∀ {n n':Nat},bC q n=true→bC q n'=true→(nm n).1=(nm n').1→n=n'
 |[],p,hd,n,n',h,_,_=>by simp[bC] at h
 |(m,k)::r,p,hd,n,n',h,h',he=>by
  have key:∀(p2:Nat) (y:Box),iQ tr nm xs ((m,k)::r) p=((nm m).1,y)::iQ tr nm xs r p2→n=n':=by
   intro p2 y e
   rw[e] at hd
   simp only[bN,bD,aq,cF,Bool.and_eq_true,Bool.not_eq_true'] at hd
   have hno:∀q,bC r q=true→(nm q).1≠(nm m).1:=fun q hq he=>by
    have:=pR (tr:=tr) (nm:=nm) (xs:=xs) (p:=p2) hq
    rw[he,←cA] at this
    rw[this] at hd;simp at hd
   rcases (cG _ _ _ _).1 h with h1|h1
   ·rcases (cG _ _ _ _).1 h' with h2|h2
    ·exact h1.symm.trans h2
    ·subst h1;exact absurd he.symm (hno _ h2)
   ·rcases (cG _ _ _ _).1 h' with h2|h2
    ·subst h2;exact absurd he (hno _ h1)
    ·exact xE hd.2 h1 h2 he
  cases k with
  |var t ks=>exact key _ _ rfl
  |arr t md=>exact key _ _ rfl
  |mp t=>exact key _ _ rfl
theorem Df {l:List (Nat×Box)} (h:bD (bN l)=true) {b:Nat} {x x':Box} (h1:(b,x)∈l) (h2:(b,x')∈l):x=x':=by
 have a:=mw (f:=fun _=>none) h h1
 have b:=mw (f:=fun _=>none) h h2
 rw[a] at b
 exact Option.some.inj b
open Classical in
noncomputable def fW (θ θ1:Nat→Value) (nm:Nm) (q:List (Nat×BSk)):Nat→Value:=fun b=>if h:∃n,bC q n=true∧b=(nm n).1 then θ1 h.choose else θ b
theorem C7 {tr:Nat→Bool} {θ θ1:Nat→Value} {nm:Nm} {q:List (Nat×BSk)} {xs:List C} {p n:Nat} (hd:bD (bN (iQ tr nm xs q p))=true) (hn:bC q n=true):fW θ θ1 nm q (nm n).1=θ1 n:=by
 have h:∃n',bC q n'=true∧(nm n).1=(nm n').1:=⟨n,hn,rfl⟩
 unfold fW
 rw[dif_pos h,←xE hd hn h.choose_spec.1 h.choose_spec.2]
theorem Bk {tr:Nat→Bool} {θ θ1:Nat→Value} {nm:Nm} {q:List (Nat×BSk)} {xs:List C} {p b:Nat} (h:¬b∈bN (iQ tr nm xs q p)):fW θ θ1 nm q b=θ b:=by
 unfold fW
 rw[dif_neg]
 rintro ⟨n,hn,rfl⟩
 exact h (pR hn)
theorem xp {ip:List Nat} {r:Ren} {out:List (Nat×BSk)} {d n b:Nat} (hn:bC out n=true) (hf:r.find n=some (some b)):(nB ip r out bx d n).1=b∧∀y,bx b=some y→(nB ip r out bx d n).2=if n∈ip then y.ver else y.ver+1:=by
 unfold nB
 rw[hn,af]
 simp only[hf]
 cases hb:bx b with
 |none=>exact ⟨rfl,fun y h=>by simp at h⟩
 |some x=>
  refine ⟨rfl,fun y h=>?_⟩
  obtain rfl:=Option.some.inj h
  show sif (cJ ip n) _ _=_
  cases hm:cJ ip n with
  |true=>rw[if_pos ((cA _ _).1 hm)];rfl
  |false=>
   rw[if_neg (fun h=>by rw[(cA _ _).2 h] at hm;simp at hm)];rfl
theorem xr {ip:List Nat} {r:Ren} {out:List (Nat×BSk)} {d n:Nat} (hn:bC out n=true) (hf:∀b,r.find n≠some (some b)):(nB ip r out bx d n).1=mC d n∧(nB ip r out bx d n).2=fy bx (mC d n):=by
 unfold nB
 rw[hn,af]
 rcases hr:r.find n with _|_|b
 ·exact ⟨rfl,rfl⟩
 ·exact ⟨rfl,rfl⟩
 ·exact absurd hr (hf b)
theorem vA {tr:Bool} {m:Nat}:o6 tr m≠0↔m≠0:=by
 unfold o6
 cases h:aA tr (Nat.beq m 1) with
 |false=>rfl
 |true=>
  rw[aq,Bool.and_eq_true] at h
  have:=Nat.eq_of_beq_eq_true h.2
  subst this
  simp[sif]
theorem oI {tr:Bool} {m:Nat} (h:tr=false∨m≠1):o6 tr m=m:=by
 unfold o6
 cases hc:aA tr (Nat.beq m 1) with
 |false=>rfl
 |true=>
  rw[aq,Bool.and_eq_true] at hc
  have:=Nat.eq_of_beq_eq_true hc.2
  rcases h with h|h
  ·rw[h] at hc;simp at hc
  ·exact absurd this h
theorem DD.tm {b:Bool} {m:Nat} {t:TypeId} {es:List (List C)} {v:Value} (h:DD T w m t es v):DD T w (o6 b m) t es v:=by
 by_cases h1:m=1
 ·subst h1;exact (h.1 (by decide)).toM
 ·rw[oI (.inr h1)];exact h
theorem lX {tr:Nat→Bool} {nm:Nm} {ys:List C} {n:Nat} {k:BSk} {z x:Box} (h:Two tr nm ys n k z x) {w:World} {v:Value}:z.live=true∧x.live=true∧(∀q,x.nst T w v q↔z.nst T w v q)∧(z.lin T w v→x.lin T w v):=by
 rcases h.2.2 with ⟨t,ks,p',_,rfl,rfl⟩|⟨t,es,m,_,rfl,rfl⟩|⟨t,es,_,rfl,rfl⟩
 ·exact ⟨rfl,rfl,fun _=>Iff.rfl,fun h=>h⟩
 ·exact ⟨rfl,rfl,fun q=>and_congr vA Iff.rfl,fun h hm=>(h (vA.1 hm)).tm⟩
 ·exact ⟨rfl,rfl,fun _=>Iff.rfl,fun h=>h⟩
theorem iR {tr:Nat→Bool} {n t m:Nat}:∀ {l:List (Nat×BSk)},j8 tr l=true→(n,.arr t m)∈l→tr t=false∨m≠1
 |[],_,h=>by simp at h
 |(a,.var _ _)::r,h,hm=>iR (l:=r) h (by simpa using hm)
 |(a,.mp _)::r,h,hm=>iR (l:=r) h (by simpa using hm)
 |(a,.arr t' m')::r,h,hm=>by
  simp only[j8,aq,cF,Bool.and_eq_true,Bool.not_eq_true'] at h
  rcases List.mem_cons.1 hm with e|hm
  ·simp only[Prod.mk.injEq,BSk.arr.injEq] at e
   obtain ⟨_,rfl,rfl⟩:=e
   rcases Bool.eq_false_or_eq_true (tr t) with h1|h1
   ·refine .inr ?_
    rintro rfl
    rw[h1] at h;simp at h
   ·exact .inl h1
  ·exact iR h.2 hm
theorem B5 {bx:Bxs} {r:Ren}:∀ {q:List Nat},ipM bx r q=true→∀n b x,n∈q→r.find n=some (some b)→bx b=some x→x.m≠4
 |[],_,n,b,x,h,_,_=>by simp at h
 |a::q,h,n,b,x,hn,hf,hb=>by
  simp only[ipM,aq,Bool.and_eq_true] at h
  rcases List.mem_cons.1 hn with rfl|hn
  ·have:=h.1
   rw[hf] at this
   simp only[hb] at this
   intro e
   rw[e] at this
   simp[dA] at this
  ·exact B5 h.2 n b x hn hf hb
theorem qK {n:Nat} {k:BSk}:∀ {l:List (Nat×BSk)},sA l=true→(n,k)∈l→∃t,k=.arr t 1
 |[],_,h=>by simp at h
 |(a,.var _ _)::r,h,hm=>by simp[sA] at h
 |(a,.mp _)::r,h,hm=>by simp[sA] at h
 |(a,.arr t' m')::r,h,hm=>by
  simp only[sA,aq,Bool.and_eq_true] at h
  rcases List.mem_cons.1 hm with e|hm
  ·simp only[Prod.mk.injEq] at e
   obtain ⟨_,rfl⟩:=e
   have:=Nat.eq_of_beq_eq_true h.1
   subst this
   exact ⟨_,rfl⟩
  ·exact qK h.2 hm
theorem ic.EM {F1 F':Nat→Prop} {bo bx':Bxs} {θo θ':Nat→Value} {n b v v' m m':Nat} {t:TypeId} {es:List (List C)} (h:ic T F1 w bo θo n (.arr v t es m)) (hl:nC T w t es (θo n)) (hm3:m'≠3) (hF:¬2≤m'→∀k,Nst T w t es (θo n) k→F' k) (hθ:θ' b=θo n):ic T F' w bx' θ' b (.arr v' t es m'):=by
 obtain ⟨d,A,cap,h1,h2,h3,h4⟩:=h
 refine ⟨d,A,cap,h1,by rw[hθ];exact h2,h3,h4.imp id ?_⟩
 rintro ⟨g,o,cs,rfl,q2,q3,q4,q5⟩
 refine ⟨g,o,cs,rfl,q2,q3,q4,fun i c j x ct u a1 a2 a3 a4=>?_⟩
 have hc:cy T w t es (θo n) i j ct x u:=by
  rw[h2]
  exact (cY h1 q2).2 ⟨c,a1,a2,a3,by rw[List.getElem?_drop];simpa using a4⟩
 have hr:=hl.rel _ _ _ _ _ hc
 by_cases h2:2≤m'
 ·rw[zB h2 hm3];exact hr
 ·rw[pv h2]
  exact hr.DW fun k hk=>hF h2 k ⟨i,j,ct,x,u,hc,hk⟩
theorem Ep {tr:Nat→Bool} {g:FuncId} {fs:FS} (hX:aG P T g fs) (hw:WR T fr F w bx θ) {vs:List V} {args:Array Value} (hl:args.toList.length=vs.length)
  (hr:∀(i:Nat) (x:V) (v:Value),vs[i]?=some x→args.toList[i]?=some v→aj T F w bx θ x v) {d:Nat} {k:Eff→List Nat→R} {r:Out} (h:xt T tr fs d vs bx k=some r):
  ∃e rd,k e rd=some r∧Calls P g args w fun en w'=>∃v,en=.returned v∧Aft T fr F w bx θ e v w':=by
 unfold xt at h
 split at h
 ·simp at h
 rename_i e he
 cases hb:Nat.beq (len vs) fs.n with
 |false=>simp[hb,sif] at he
 |true=>
 rw[hb,af] at he
 rw[cV] at hb
 have hn:=Nat.eq_of_beq_eq_true hb
 cases hc:aA (orS (aA (isNil e.fz) (j8 tr fs.outT.bx)) (orS fs.outT.flat (aA fs.outT.pure (orS (j8 tr fs.outT.bx) (aA (isNil fs.ip) (j8 Bj fs.inT.bx)))))) (aA (xl fs.inT.bx fs.ip fs.outT.bx) (aA (lE fs.inT.bx fs.ip) (ipM bx e.r fs.ip))) with
 |false=>simp[hc,sif] at h
 |true=>
 rw[hc,af] at h
 simp only[aq,jw,Bool.and_eq_true,Bool.or_eq_true] at hc
 obtain ⟨hfz,hst,hall,hip4⟩:=hc
 unfold gB at h
 split at h
 ·rename_i ys hys
  cases hnd:bD (bN (di tr fs d e.r bx ys)) with
  |false=>
   replace h:sif (bD (bN (di tr fs d e.r bx ys))) (k ⟨rA fs d e.r bx ys,di tr fs d e.r bx ys⟩ (app (names e.r) (app e.fz (bN (di tr fs d e.r bx ys))))) none=some r:=h
   simp[hnd,sif] at h
  |true=>
  replace h:sif (bD (bN (di tr fs d e.r bx ys))) (k ⟨rA fs d e.r bx ys,di tr fs d e.r bx ys⟩ (app (names e.r) (app e.fz (bN (di tr fs d e.r bx ys))))) none=some r:=h
  rw[hnd,af] at h
  have hinj:=sG hw (Cu hl hr) he
  have hwc:WR T ⟨w,WrF T w bx θ e.r,FzF T F w bx θ e.fz,l9 θ e.r,fs.ip,fun q=>j8 Bj fs.inT.bx=false∧NlF T w bx θ e.r q⟩ (FzF T F w bx θ e.fz) w (fs.inT.inj (rev e.xs [])).bx (l9 θ e.r):=by
   refine ⟨hinj.box,hinj.disj,fun n x g hx hl hg=>?_,Bx hw,⟨rfl,rfl,⟨rfl,Nat.le_refl _⟩,Nat.le_refl _,fun _ _ _=>rfl⟩,fun _ h=>h,fun _ h=>.inl h,fun n hn=>?_,hinj.lin,fun n x q hx hq=>?_,hinj.odj,?_⟩
   ·obtain ⟨h1,b,y,q1,q2,q3,q4⟩:=hinj.out n x g hx hl hg
    exact ⟨h1,(hw.out b y g q2 q3 q4).2.1,.inr ⟨n,b,y,q1,q2,.inl ⟨q3,q4⟩⟩⟩
   ·obtain ⟨x',h1,_⟩:=hinj.has n (lh hall n hn)
    exact ⟨x',h1,fun _=>⟨rfl,fun _ _ _ _ _ _ _ _ _ _ h=>h⟩⟩
   ·obtain ⟨h1,h2,h3,b,y,q1,q2,q3,q4⟩:=hinj.own n x q hx hq
    refine ⟨(hw.own b y q q2 q4).1,h1,h2,.inr ?_,h3⟩
    by_cases hm:2≤x.m
    ·exact .inl ⟨n,b,y,q1,q2,.inr ⟨q3.2 hm,q4⟩⟩
    ·refine .inr ⟨?_,n,b,y,q1,q2,fun h=>hm (q3.1 h),q4⟩
     obtain ⟨k1,t1,t2⟩:=kc _ _ _ _ n x (hinj.hasnt n x hx) hx
     have h0:x.m≠0:=by cases x<;>first|exact hq.1|exact hq.elim
     rcases t2 with ⟨t0,ks0,cells0,rfl,rfl⟩|⟨t0,es0,m0,rfl,rfl⟩|⟨t0,es0,rfl,rfl⟩
     ·exact absurd rfl h0
     ·cases hno:j8 Bj fs.inT.bx with
      |false=>rfl
      |true=>
       have h1m:=(iR hno t1).resolve_left (by simp[Bj])
       obtain ⟨x',p1,p2⟩:=hinj.has n (hinj.hasnt n _ hx)
       rw[hx] at p1;obtain rfl:=Option.some.inj p1
       rcases p2.2 with ⟨b',y',r1,r2,r3,r4,r5⟩|⟨r1,_⟩
       ·simp only[Box.m] at r4 h0 hm
        have:=Hb r4
        omega
       ·rw[q1] at r1;simp at r1
     ·exact absurd rfl h0
   ·rintro q ⟨_,n,b,y,q1,q2,q3,q4⟩
    exact .inl ((hw.own b y q q2 q4).2.2.1 q3)
  have hcall:=hX.calls w _ _ _ _ (rev e.xs []) ys args hwc (by simpa [hn] using hl) (fun q _=>by simpa using hinj.sl q) hys
  refine ⟨_,_,h,Calls.mono hcall ?_⟩
  rintro en w' ⟨v,F1,θ1,rfl,hw1,hv1,hkept⟩
  refine ⟨v,rfl,?_⟩
  clear h hcall hX
  have hpos:(cg (nB fs.ip e.r fs.outT.bx bx d) ys fs.outT.sl 0 fun _=>.un).2=(cg nm0 ys fs.outT.sl 0 fun _=>.un).2:=wq _ _ _ _ _ _
  have hups:di tr fs d e.r bx ys=iQ tr (nB fs.ip e.r fs.outT.bx bx d) ys fs.outT.bx (cg nm0 ys fs.outT.sl 0 fun _=>.un).2++lF bx fs.outT.bx e.r:=by
   unfold di;rw[ff,hpos]
  have hbo:(fs.outT.inj ys).bx=cd nm0 ys fs.outT.bx (cg nm0 ys fs.outT.sl 0 fun _=>.un).2 fun _=>none:=rfl
  show Aft T fr F w bx θ ⟨rA fs d e.r bx ys,di tr fs d e.r bx ys⟩ v w'
  generalize hnm:nB fs.ip e.r fs.outT.bx bx d=nm at hups
  generalize hp:(cg nm0 ys fs.outT.sl 0 fun _=>.un).2=p at hups hbo
  have hnd':=hnd
  rw[hups,ru] at hnd'
  have hndA:=zm hnd'
  obtain ⟨U1,U2,U3⟩:=zx tr nm ys fs.outT.bx p (fun _=>none) hndA
  rw[←hbo] at U1 U2
  obtain ⟨D1,D2⟩:=wh (bx:=bx) (out:=fs.outT.bx) (r:=e.r)
  have hin:∀b x,(b,x)∈di tr fs d e.r bx ys→((b,x)∈iQ tr nm ys fs.outT.bx p∧∃n k y,bC fs.outT.bx n=true∧b=(nm n).1∧(n,k)∈fs.outT.bx∧(fs.outT.inj ys).bx n=some y∧Two tr nm ys n k y x)∨∃v,x=.dead v∧∀y,bx b=some y→y.ver<v:=by
   intro b x hm
   rw[hups] at hm
   rcases List.mem_append.1 hm with hm|hm
   ·obtain ⟨n,h1,h2⟩:=U3 b x hm
    obtain ⟨k,y,x',q1,q2,q3,q4⟩:=U1 n h1
    rw[←h2] at q3
    obtain rfl:=Df hndA hm q3
    exact .inl ⟨hm,n,k,y,h1,h2,q1,q2,q4⟩
   ·exact .inr (D2 b x hm)
  have hmemU:∀n,bC fs.outT.bx n=true→∃k y x,(n,k)∈fs.outT.bx∧(fs.outT.inj ys).bx n=some y∧((nm n).1,x)∈di tr fs d e.r bx ys∧Two tr nm ys n k y x:=by
   intro n hn
   obtain ⟨k,y,x',q1,q2,q3,q4⟩:=U1 n hn
   exact ⟨k,y,x',q1,q2,by rw[hups];exact List.mem_append_left _ q3,q4⟩
  have hin':∀n,bC fs.outT.bx n=true→fW θ θ1 nm fs.outT.bx (nm n).1=θ1 n:=fun n hn=>C7 hndA hn
  have H1:∀b,¬b∈bN (di tr fs d e.r bx ys)→fW θ θ1 nm fs.outT.bx b=θ b:=by
   intro b hb
   rw[hups,ru] at hb
   exact Bk (fun h=>hb (List.mem_append_left _ h))
  have H2:∀n b,e.r.find n=some (some b)→b∈bN (di tr fs d e.r bx ys):=by
   intro n b hf
   by_cases ho:bC fs.outT.bx n=true
   ·obtain ⟨k,y,x,_,_,q3,_⟩:=hmemU n ho
    have:(nm n).1=b:=by rw[←hnm];exact (xp ho hf).1
    rw[this] at q3
    exact n9.2 ⟨x,q3⟩
   ·obtain ⟨x,hx⟩:=D1 n b hf ho
    rw[hups,ru]
    exact List.mem_append_right _ (n9.2 ⟨_,hx⟩)
  have hipm:∀n t m,n∈fs.ip→(n,.arr t m)∈fs.outT.bx→o6 (tr t) m=m:=by
   intro n t m hn hm
   rcases hfz with ⟨_,h⟩|h|⟨h,h'|h'⟩
   ·exact oI (iR h hm)
   ·simp only[Tm.flat,aq,Bool.and_eq_true] at h
    have:=h.1
    split at this
    ·rename_i h0;rw[h0] at hm;simp at hm
    ·simp at this
   ·exact oI (iR h' hm)
   ·have:=h'.1
    cases hi:fs.ip with
    |nil=>rw[hi] at hn;simp at hn
    |cons=>rw[hi] at this;simp[isNil] at this
  have H4:∀b x y,(b,x)∈di tr fs d e.r bx ys→bx b=some y→y.ver≤x.ver∧(y.ver=x.ver→y.same x∧fW θ θ1 nm fs.outT.bx b=θ b∧(x.m=2→y.m=2∧Hdr w w' (θ b))):=by
   intro b x y hm hy
   rcases hin b x hm with ⟨_,n,kk,z,h1,rfl,h3,h4,h5⟩|⟨v,rfl,hv⟩
   ·by_cases hex:∃b,e.r.find n=some (some b)
    ·obtain ⟨b0,hf⟩:=hex
     obtain ⟨g1,g2⟩:=xp (bx:=bx) (ip:=fs.ip) (d:=d) h1 hf
     rw[hnm] at g1 g2
     rw[g1] at hy
     have g3:=g2 y hy
     have hxv:x.ver=(nm n).2:=h5.2.1
     by_cases hip:n∈fs.ip
     ·rw[if_pos hip] at g3
      refine ⟨by omega,fun _=>?_⟩
      have hth0:l9 θ e.r n=θ b0:=by simp[l9,hf]
      have hth:θ1 n=θ b0:=by rw[(hkept n z hip h4).1];exact hth0
      have hhd:z.m=2→Hdr w w' (θ b0):=by rw[←hth0];exact (hkept n z hip h4).2
      suffices hs:y.same x∧(x.m=2→y.m=2)∧x.m=z.m from ⟨hs.1,by rw[hin' n h1,g1,hth],fun hxm=>by
       exact ⟨hs.2.1 hxm,by rw[g1];exact hhd (hs.2.2.symm.trans hxm)⟩⟩
      obtain ⟨x1,p1,p2,p3⟩:=hinj.has n (lh hall n hip)
      obtain ⟨k1,t1,t2⟩:=kc _ _ _ _ n x1 (lh hall n hip) p1
      have hsame:=xn hst n kk k1 hip h3 t1
      rcases p3 with ⟨b1,y1,r1,r2,r3,r5,_⟩|⟨r1,_⟩
      ·rw[hf] at r1
       simp only[Option.some.injEq] at r1
       subst r1
       rw[hy] at r2;obtain rfl:=Option.some.inj r2
       have hbx1:=hinj.box n x1 p1
       have hby:=hw.box _ _ hy
       have hbz:=hw1.box n z h4
       rcases h5.2.2 with ⟨t,ks,p',rfl,rfl,rfl⟩|⟨t,es,m,rfl,rfl,rfl⟩|⟨t,es,rfl,rfl,rfl⟩
       ·rcases t2 with ⟨t0,ks0,cells0,rfl,rfl⟩|⟨t0,es0,m0,rfl,rfl⟩|⟨t0,es0,rfl,rfl⟩
        ·have:=Nat.eq_of_beq_eq_true hsame;subst this
         cases y with
         |var v t' cells=>
          obtain ⟨_,_,_,d1,_,_,_,e1,e2,_⟩:=hbx1
          obtain ⟨_,_,_,d2,_,_,_,e3,e4,_⟩:=hbz
          rw[e1] at e3;obtain rfl:=Option.some.inj e3
          replace r3:cells.length=cells0.length:=r3
          refine ⟨?_,fun h=>by simp[Box.m] at h,rfl⟩
          show cells.length=_
          rw[bu] at e4⊢
          omega
         |_=>exact r3.elim
        ·simp[j4] at hsame
        ·simp[j4] at hsame
       ·rcases t2 with ⟨t0,ks0,cells0,rfl,rfl⟩|⟨t0,es0,m0,rfl,rfl⟩|⟨t0,es0,rfl,rfl⟩
        ·simp[j4] at hsame
        ·simp only[j4,aq,Bool.and_eq_true] at hsame
         have hm2:m=2→m0=2:=by
          rintro rfl
          have:=hsame.2
          exact Nat.eq_of_beq_eq_true (by simpa [sif] using this)
         have:=Nat.eq_of_beq_eq_true hsame.1;subst this
         have hmx:=hipm n _ _ hip h3
         cases y with
         |arr v t' es' m'=>
          obtain ⟨rfl,r4⟩:=r3
          obtain ⟨_,A1,c1,_,e1,_⟩:=hby
          obtain ⟨_,A2,c2,_,e2,_⟩:=hbz
          rw[hth,e1] at e2
          simp only[Value.slice.injEq] at e2
          refine ⟨⟨rfl,e2.2.1⟩,?_,hmx⟩
          have h4':=B5 hip4 n _ _ hip hf hy
          simp only[Box.m] at r5 h4'⊢
          rw[hmx]
          exact fun h=>we r5 h4' (hm2 h)
         |_=>exact r3.elim
        ·simp[j4] at hsame
       ·rcases t2 with ⟨t0,ks0,cells0,rfl,rfl⟩|⟨t0,es0,m0,rfl,rfl⟩|⟨t0,es0,rfl,rfl⟩
        ·simp[j4] at hsame
        ·simp[j4] at hsame
        ·have:=Nat.eq_of_beq_eq_true hsame;subst this
         cases y with
         |mp v t' es'=>exact ⟨r3,fun h=>by simp[Box.m] at h,rfl⟩
         |_=>exact r3.elim
      ·rw[hf] at r1;simp at r1
     ·rw[if_neg hip] at g3
      exact ⟨by omega,fun h=>by omega⟩
    ·obtain ⟨g1,g2⟩:=xr (bx:=bx) (ip:=fs.ip) (d:=d) h1 (fun b hb=>hex ⟨b,hb⟩)
     rw[hnm] at g1 g2
     have hxv:x.ver=(nm n).2:=h5.2.1
     rw[g1] at hy
     have:=mP hy
     exact ⟨by omega,fun h=>by omega⟩
   ·have:=hv y hy
    exact ⟨Nat.le_of_lt this,fun h=>by simp only[Box.ver] at h this;omega⟩
  have H5:∀b b' x x' g,(b,x)∈di tr fs d e.r bx ys→(b',x')∈di tr fs d e.r bx ys→x.live=true→x'.live=true→bA (fW θ θ1 nm fs.outT.bx b)=some g→bA (fW θ θ1 nm fs.outT.bx b')=some g→b=b':=by
   intro b b' x x' g hm hm' hlv hlv' hg hg'
   rcases hin b x hm with ⟨_,n,kk,z,h1,rfl,h3,h4,h5⟩|⟨v,rfl,hv⟩
   ·rcases hin b' x' hm' with ⟨_,n',kk',z',h1',rfl,h3',h4',h5'⟩|⟨v,rfl,hv⟩
    ·rw[hin' n h1] at hg
     rw[hin' n' h1'] at hg'
     have hz:z.live=true:=(lX (T:=T) (w:=w) (v:=v) h5).1
     have hz':z'.live=true:=(lX (T:=T) (w:=w) (v:=v) h5').1
     rw[hw1.disj n n' z z' g h4 h4' hz hz' hg hg']
    ·simp[Box.live] at hlv'
   ·simp[Box.live] at hlv
  have hk:=hw1.keep
  have hc2:∀q,F1 q→FzF T F w bx θ e.fz q∨w.heap.size≤q∨WrF T w bx θ e.r q:=fun q hq=>by
   rcases hw1.new q hq with h|h|h|⟨_,n,b,y,q1,q2,q3,q4⟩
   ·exact .inl h
   ·exact .inr (.inl h)
   ·exact .inr (.inr h)
   ·exact .inl (.inl ((hw.own b y q q2 q4).2.2.1 q3))
  have hho:∀n x,(fs.outT.inj ys).bx n=some x→bC fs.outT.bx n=true:=by
   intro n x hx
   by_cases ho:bC fs.outT.bx n=true
   ·exact ho
   ·rw[U2 n ho] at hx;simp at hx
  have hNm:NmR (fs.outT.inj ys).bx θ1 nm (dg bx (di tr fs d e.r bx ys)) (fW θ θ1 nm fs.outT.bx):=by
   intro n x hx
   have ho:=hho n x hx
   obtain ⟨kk,y,x',q1,q2,q3,q4⟩:=hmemU n ho
   rw[hx] at q2;obtain rfl:=Option.some.inj q2
   refine ⟨q4.1,x',mw hnd q3,q4.2.1,?_,hin' n ho⟩
   rcases q4.2.2 with ⟨t,ks,p',_,rfl,rfl⟩|⟨t,es,m,_,rfl,rfl⟩|⟨t,es,_,rfl,rfl⟩
   ·show List.length _=List.length _
    rw[bu,bu]
   ·exact ⟨rfl,rfl⟩
   ·rfl
  have hnlv:∀(v:Nat) (u:Value) (q:Nat),¬(Box.dead v).nst T w' u q:=fun _ _ _ h=>h
  have H6:∀F':Nat→Prop,(∀n kk z x q,bC fs.outT.bx n=true→(n,kk)∈fs.outT.bx→(fs.outT.inj ys).bx n=some z→Two tr nm ys n kk z x→z.nst T w' (θ1 n) q→(2≤x.m→¬F' q)∧(¬2≤x.m→F' q))→∀b x,(b,x)∈di tr fs d e.r bx ys→x.lin T w' (fW θ θ1 nm fs.outT.bx b)∧∀q,x.nst T w' (fW θ θ1 nm fs.outT.bx b) q→q<w'.heap.size∧(2≤x.m→¬F' q)∧(¬2≤x.m→F' q)∧(w.heap.size≤q∨WrF T w bx θ e.r q∨NlF T w bx θ e.r q)∧∀b' x',(b',x')∈di tr fs d e.r bx ys→x'.live=true→bA (fW θ θ1 nm fs.outT.bx b')≠some q:=by
   intro F' hF' b x hm
   rcases hin b x hm with ⟨_,n,kk,z,h1,rfl,h3,h4,h5⟩|⟨v,rfl,hv⟩
   ·rw[hin' n h1]
    obtain ⟨_,_,t3,t4⟩:=lX (T:=T) (w:=w') (v:=θ1 n) h5
    refine ⟨t4 (hw1.lin n z h4),fun q hq=>?_⟩
    have hq:=(t3 q).1 hq
    obtain ⟨o1,o2,o3,o4,o5⟩:=hw1.own n z q h4 hq
    refine ⟨o1,(hF' n kk z x q h1 h3 h4 h5 hq).1,(hF' n kk z x q h1 h3 h4 h5 hq).2,?_,fun b' x' hm' hl'=>?_⟩
    ·rcases o4 with h|h|h
     ·exact .inl h
     ·exact .inr (.inl h)
     ·exact .inr (.inr h.2)
    ·rcases hin b' x' hm' with ⟨_,n',kk',z',h1',rfl,h3',h4',h5'⟩|⟨v,rfl,hv⟩
     ·rw[hin' n' h1']
      exact o5 n' z' h4' (lX (T:=T) (w:=w') (v:=θ1 n) h5').1
     ·simp[Box.live] at hl'
   ·exact ⟨trivial,fun q hq=>absurd hq (hnlv _ _ _)⟩
  have H7:∀b b' x x' q,(b,x)∈di tr fs d e.r bx ys→(b',x')∈di tr fs d e.r bx ys→x.nst T w' (fW θ θ1 nm fs.outT.bx b) q→x'.nst T w' (fW θ θ1 nm fs.outT.bx b') q→b=b':=by
   intro b b' x x' q hm hm' hq hq'
   rcases hin b x hm with ⟨_,n,kk,z,h1,rfl,h3,h4,h5⟩|⟨v,rfl,hv⟩
   ·rcases hin b' x' hm' with ⟨_,n',kk',z',h1',rfl,h3',h4',h5'⟩|⟨v,rfl,hv⟩
    ·rw[hin' n h1] at hq
     rw[hin' n' h1'] at hq'
     rw[hw1.odj n n' z z' q h4 h4' (((lX h5).2.2.1 q).1 hq) (((lX h5').2.2.1 q).1 hq')]
    ·exact absurd hq' (hnlv _ _ _)
   ·exact absurd hq (hnlv _ _ _)
  rcases hfz with ⟨hfz,htr⟩|hflat|⟨hpure,htr⟩
  ·
   have hfz0:e.fz=[]:=by
    cases hz:e.fz with
    |nil=>rfl
    |cons=>rw[hz] at hfz;simp[isNil] at hfz
   have hFz:∀k,FzF T F w bx θ e.fz k→F k:=by
    rintro k (h|⟨b,x,h1,_⟩)
    ·exact h
    ·rw[hfz0] at h1;simp at h1
   have hRn:Rnm F1 w' (fs.outT.inj ys).bx θ1 nm F1 (dg bx (di tr fs d e.r bx ys)) (fW θ θ1 nm fs.outT.bx):=⟨fun _ h=>h,hNm⟩
   have htm:∀n t m,(n,.arr t m)∈fs.outT.bx→o6 (tr t) m=m:=fun n t m hm=>oI (iR htr hm)
   have hframe:=qk (F':=F1) (w':=w') (θ':=fW θ θ1 nm fs.outT.bx) hw hnd hk.os hk.tape hk.output hk.size hk.old H1 H2
    (fun b x hm hlv=>by
     rcases hin b x hm with ⟨_,n,kk,z,h1,rfl,h3,h4,h5⟩|⟨v,rfl,hv⟩
     ·rw[hin' n h1]
      refine ⟨?_,fun g hg=>hw1.out n z g h4 (lX (T:=T) (w:=w) (v:=v) h5).1 hg⟩
      have hbz:=hw1.box n z h4
      rcases h5.2.2 with ⟨t,ks,p',_,rfl,rfl⟩|⟨t,es,m,rfl,rfl,rfl⟩|⟨t,es,_,rfl,rfl⟩
      ·obtain ⟨g,cs,te,dd,q1,q2,q3,q4,q5,q6⟩:=hbz
       rw[bu] at q3 q5
       refine ⟨g,cs,te,dd,by rw[hin' n h1];exact q1,q2,by rw[bu];exact q3,q4,by rw[bu];exact q5,fun i y u a1 a2=>?_⟩
       exact (rM hRn ys ks p').2 cs.toList (fun i y u b1 b2=>q6 i y u b1 (by simpa using b2)) i y u a1 (by simpa using a2)
      ·rw[htm n t m h3]
       obtain ⟨dd,A,cap,q1,q2,q3⟩:=hbz
       exact ⟨dd,A,cap,q1,by rw[hin' n h1];exact q2,q3⟩
      ·obtain ⟨q,arr,clk,dd,ct,q1,q2⟩:=hbz
       exact ⟨q,arr,clk,dd,ct,by rw[hin' n h1];exact q1,q2⟩
     ·simp[Box.live] at hlv) H4 H5 (H6 F1 fun n kk z x q h1 h3 h4 h5 hq=>by
      obtain ⟨_,o2,o3,_⟩:=hw1.own n z q h4 hq
      have hxm:x.m=z.m:=by
       rcases h5.2.2 with ⟨t,ks,p',_,rfl,rfl⟩|⟨t,es,m,rfl,rfl,rfl⟩|⟨t,es,_,rfl,rfl⟩
       ·rfl
       ·exact htm n t m h3
       ·rfl
      rw[hxm];exact ⟨o2,o3⟩) H7 (fun k hk=>hw1.sub k (.inl hk)) (fun k hk=>(hc2 k hk).imp (hFz k) id) hw1.lt
   refine ⟨F1,_,hframe.1,hframe.2,?_⟩
   have:=(Ay hRn ys fs.outT.sl 0 (fun _=>.un) (fun _=>.un) (fun d v _=>.un v)).2 0 v hv1
   show aj T F1 w' _ _ (rA fs d e.r bx ys) v
   unfold rA
   rw[hnm]
   exact this
  ·
   simp only[Tm.flat,aq,Bool.and_eq_true] at hflat
   have hbx0:fs.outT.bx=[]:=by
    have:=hflat.1
    split at this
    ·assumption
    ·simp at this
   have hframe:=qk (F':=F) (w':=w') (θ':=fW θ θ1 nm fs.outT.bx) hw hnd hk.os hk.tape hk.output hk.size hk.old H1 H2
    (fun b x hm hlv=>by
     rcases hin b x hm with ⟨_,n,kk,z,h1,rfl,h3,h4,h5⟩|⟨v,rfl,hv⟩
     ·rw[hbx0] at h1;simp[bC] at h1
     ·simp[Box.live] at hlv) H4 H5 (H6 F fun n kk z x q h1=>by rw[hbx0] at h1;simp[bC] at h1) H7 (fun k hk=>hk) (fun k hk=>.inl hk) (fun k hkk=>Nat.lt_of_lt_of_le (hw.lt k hkk) hk.size)
   refine ⟨F,_,hframe.1,hframe.2,?_⟩
   show aj T F w' _ _ (rA fs d e.r bx ys) v
   unfold rA
   rw[hnm]
   have hfl:=hflat.2
   split at hfl
   ·rename_i d0 kk hsl
    rw[hsl]
    have hv2:aj T F1 w' (fs.outT.inj ys).bx θ1 ((cg nm0 ys fs.outT.sl 0 fun _=>.un).1 0) v:=hv1
    rw[hsl] at hv2
    show aj T F w' _ _ (upd (fun _=>V.un) d0 (kk.inst nm ys 0).1 0) v
    replace hv2:aj T F1 w' (fs.outT.inj ys).bx θ1 (upd (fun _=>V.un) d0 (kk.inst nm0 ys 0).1 0) v:=hv2
    by_cases hd:0=d0
    ·subst hd
     rw[ar] at hv2⊢
     exact (tY ys kk 0 hfl v hv2).1
    ·rw[aP _ _ hd]
     exact .un v
   ·simp at hfl
  ·
   simp only[Tm.pure,aq,Bool.and_eq_true] at hpure
   have hFo:∀q,F q→F1 q:=fun q hq=>hw1.sub q (.inl hq)
   have hF'':∃F':Nat→Prop,(∀q,F q→F' q)∧(∀q,F' q→F q∨∃n z,(fs.outT.inj ys).bx n=some z∧z.nst T w' (θ1 n) q)∧∀n kk z x q,bC fs.outT.bx n=true→(n,kk)∈fs.outT.bx→(fs.outT.inj ys).bx n=some z→Two tr nm ys n kk z x→z.nst T w' (θ1 n) q→(2≤x.m→¬F' q)∧(¬2≤x.m→F' q):=by
    refine ⟨fun q=>F q∨∃n kk z x,(fs.outT.inj ys).bx n=some z∧(n,kk)∈fs.outT.bx∧Two tr nm ys n kk z x∧¬2≤x.m∧z.nst T w' (θ1 n) q,fun q h=>.inl h,fun q h=>h.imp id fun ⟨n,kk,z,x,a1,_,_,_,a5⟩=>⟨n,z,a1,a5⟩,fun n kk z x q h1 h3 h4 h5 hq=>⟨fun hx=>?_,fun hx=>.inr ⟨n,kk,z,x,h4,h3,h5,hx,hq⟩⟩⟩
    rintro (hF|⟨n',kk',z',x',a1,a2,a3,a4,a5⟩)
    ·obtain ⟨t,rfl⟩:=qK hpure.1 h3
     rcases h5.2.2 with ⟨t,ks,p',e1,_⟩|⟨t,es,m,e1,rfl,rfl⟩|⟨t,es,e1,_⟩
     ·simp at e1
     ·simp only[BSk.arr.injEq] at e1
      obtain ⟨rfl,rfl⟩:=e1
      have htt:tr t=true:=by
       rcases Bool.eq_false_or_eq_true (tr t) with h|h
       ·exact h
       ·simp only[Box.m] at hx
        rw[oI (.inl h)] at hx
        omega
      obtain ⟨_,_,_,o4,_⟩:=hw1.own n _ q h4 hq
      rcases o4 with h|⟨n',b,y,q1,q2,⟨q3,q4⟩|⟨q3,q4⟩⟩|⟨h,_⟩
      ·have:=hw.lt q hF
       have h:w.heap.size≤q:=h
       omega
      ·exact (hw.out b y q q2 q3 q4).1 hF
      ·exact (hw.own b y q q2 q4).2.1 q3 hF
      ·rcases htr with h'|h'
       ·rcases iR h' h3 with a|a
        ·rw[htt] at a;simp at a
        ·exact a rfl
       ·rw[h'.2] at h;simp at h
     ·simp at e1
    ·have:=hw1.odj n n' z z' q h4 a1 hq a5
     subst this
     rw[h4] at a1;obtain rfl:=Option.some.inj a1
     rcases h5.2.2 with ⟨t,ks,p',e1,rfl,rfl⟩|⟨t,es,m,e1,rfl,rfl⟩|⟨t,es,e1,rfl,rfl⟩
     ·simp[Box.m] at hx
     ·rcases a3.2.2 with ⟨t',ks',p',e1',e2',rfl⟩|⟨t',es',m',e1',e2',rfl⟩|⟨t',es',e1',e2',rfl⟩
      ·simp at e2'
      ·simp only[Box.arr.injEq] at e2'
       obtain ⟨_,rfl,rfl,rfl⟩:=e2'
       exact a4 hx
      ·simp at e2'
     ·simp[Box.m] at hx
   obtain ⟨F',f1,f2,f3⟩:=hF''
   have hroot:∀n z g,(fs.outT.inj ys).bx n=some z→z.live=true→bA (θ1 n)=some g→¬F' g∧g<w'.heap.size∧(w.heap.size≤g∨WrF T w bx θ e.r g):=by
    intro n z g hz hl hg
    obtain ⟨q1,q2,q3⟩:=hw1.out n z g hz hl hg
    refine ⟨fun hF=>?_,q2,q3⟩
    rcases f2 g hF with h|⟨n',z',h1,h2⟩
    ·exact q1 (hFo g h)
    ·exact (hw1.own n' z' g h1 h2).2.2.2.2 n z hz hl hg
   have hframe:=qk (F':=F') (w':=w') (θ':=fW θ θ1 nm fs.outT.bx) hw hnd hk.os hk.tape hk.output hk.size hk.old H1 H2
    (fun b x hm hlv=>by
     rcases hin b x hm with ⟨_,n,kk,z,h1,rfl,h3,h4,h5⟩|⟨v,rfl,hv⟩
     ·rw[hin' n h1]
      refine ⟨?_,fun g hg=>hroot n z g h4 (lX (T:=T) (w:=w) (v:=v) h5).1 hg⟩
      have hbz:=hw1.box n z h4
      have hlz:=hw1.lin n z h4
      have hq:=fun q=>f3 n kk z x q h1 h3 h4 h5
      obtain ⟨t,rfl⟩:=qK hpure.1 h3
      rcases h5.2.2 with ⟨t,ks,p',e1,_⟩|⟨t,es,m,e1,rfl,rfl⟩|⟨t,es,e1,_⟩
      ·simp at e1
      ·simp only[BSk.arr.injEq] at e1
       obtain ⟨rfl,rfl⟩:=e1
       exact ic.EM hbz ((hlz (by decide)).1 (by decide)) (by unfold o6;cases aA (tr t) (Nat.beq 1 1)<;>simp[sif]) (fun hm2 q hn=>(hq q ⟨by decide,hn⟩).2 hm2) (hin' n h1)
      ·simp at e1
     ·simp[Box.live] at hlv) H4 H5 (H6 F' f3) H7 f1 (fun q hq=>by
      rcases f2 q hq with h|⟨n,z,h1,h2⟩
      ·exact .inl h
      ·obtain ⟨_,_,_,o4,_⟩:=hw1.own n z q h1 h2
       rcases o4 with h|h|⟨_,n',b,y,q1,q2,q3,q4⟩
       ·exact .inr (.inl h)
       ·exact .inr (.inr h)
       ·exact .inl ((hw.own b y q q2 q4).2.2.1 q3)) (fun q hq=>by
      rcases f2 q hq with h|⟨n,z,h1,h2⟩
      ·exact Nat.lt_of_lt_of_le (hw.lt q h) hk.size
      ·exact (hw1.own n z q h1 h2).1)
   refine ⟨F',_,hframe.1,hframe.2,?_⟩
   show aj T F' w' _ _ (rA fs d e.r bx ys) v
   unfold rA
   rw[hnm]
   have hfl:=hpure.2
   split at hfl
   ·rename_i d0 kk hsl
    rw[hsl]
    have hv2:aj T F1 w' (fs.outT.inj ys).bx θ1 ((cg nm0 ys fs.outT.sl 0 fun _=>.un).1 0) v:=hv1
    rw[hsl] at hv2
    show aj T F' w' _ _ (upd (fun _=>V.un) d0 (kk.inst nm ys 0).1 0) v
    replace hv2:aj T F1 w' (fs.outT.inj ys).bx θ1 (upd (fun _=>V.un) d0 (kk.inst nm0 ys 0).1 0) v:=hv2
    by_cases hd:0=d0
    ·subst hd
     rw[ar] at hv2⊢
     exact Ck hNm ys kk 0 hfl v hv2
    ·rw[aP _ _ hd]
     exact .un v
   ·simp at hfl
 ·simp at h
end
end Go.Ev
namespace Go.Ev
section
variable {P:Program} {T:Tys} {fr:Fr} {F:Nat→Prop} {w:World} {bx:Bxs} {θ:Nat→Value}
def bx0:Bxs:=fun _=>none
theorem GD:∀ {ts:List CT} {vs:List V} {cs:List C} {f:List Nat},bF ts=true→iV bx0 ts vs=some (cs,f)→cs.length=ts.length∧vs.length=ts.length∧f=[]∧
  ∀(i:Nat) (c:C) (t:CT),cs[i]?=some c→ts[i]?=some t→vs[i]?=some (.c t c)
 |[],[],cs,f,_,h=>by
  replace h:some (([]:List C),([]:List Nat))=some (cs,f):=h
  simp at h;obtain ⟨rfl,rfl⟩:=h
  exact ⟨rfl,rfl,rfl,fun i c t h=>by simp at h⟩
 |[],_::_,cs,f,_,h=>absurd (show (none:Option (List C×List Nat))=some (cs,f) from h) (by simp)
 |_::_,[],cs,f,_,h=>absurd (show (none:Option (List C×List Nat))=some (cs,f) from h) (by simp)
 |t::ts,v::vs,cs,f,hf,h=>by
  simp only[iV] at h
  have ht:t.flat=true:=cQ hf 0 t rfl
  have hf':bF ts=true:=by cases t<;>simp_all [bF,CT.flat]
  split at h
  ·rename_i x f1 h1
   split at h
   ·rename_i xs g h2
    simp only[Option.some.injEq,Prod.mk.injEq] at h
    obtain ⟨rfl,rfl⟩:=h
    obtain ⟨a1,a2,a3,a4⟩:=GD hf' h2
    subst a3
    have hv:v=.c t x∧f1=[]:=by
     cases v with
     |c t' y=>
      replace h1:sif (ia t t') (some (y,([]:List Nat))) none=some (x,f1):=by cases t<;>exact h1
      cases hc:ia t t' with
      |false=>simp[hc,sif] at h1
      |true=>
       simp[hc,sif] at h1
       obtain ⟨rfl,rfl⟩:=h1
       exact ⟨by rw[fH hc],rfl⟩
     |_=>cases t<;>first|exact absurd (show (none:Option (C×List Nat))=some (x,f1) from h1) (by simp)|simp[CT.flat] at ht
    obtain ⟨rfl,rfl⟩:=hv
    refine ⟨by simp[a1],by simp[a2],rfl,fun i c t' hi ht'=>?_⟩
    cases i with
    |zero=>simp at hi ht';subst hi;subst ht';rfl
    |succ i=>simpa using a4 i c t' (by simpa using hi) (by simpa using ht')
   ·simp at h
  ·simp at h
mutual
theorem Gm:∀(k:Sk) (v:V) (val:Value) (e e':Ex),k.flat=true→aj T F w bx θ v val→k.ext T bx0 v e=some e'→
  e.le e'∧(∀nm xs,(k.inst nm xs e.xs.length).2=e'.xs.length)∧∀ef,e'.le ef→∀F' w' bx' θ',aj T F' w' bx' θ' (k.inst nm0 ef.xs.reverse e.xs.length).1 val
 |.un,v,val,e,e',_,hv,h=>by
  replace h:some e=some e':=by cases v<;>exact h
  simp only[Option.some.injEq] at h
  subst h
  exact ⟨Ex.le_refl _,fun _ _=>rfl,fun ef _ F' w' bx' θ'=>.un _⟩
 |.d t,v,val,e,e',hk,hv,h=>by
  have ht:t.flat=true:=by cases t<;>first|rfl|simp[Sk.flat] at hk
  cases hv with
  |c t' x v hr=>
   replace h:sif (ia t t') (some (⟨x::e.xs,e.r,e.fz⟩:Ex)) none=some e':=by cases t<;>first|exact h|simp[CT.flat] at ht
   cases hc:ia t t' with
   |false=>simp[hc,sif] at h
   |true=>
    simp[hc,sif] at h
    subst h
    have:=fH hc;subst this
    refine ⟨e.push _,fun _ _=>rfl,fun ef hef F' w' bx' θ'=>?_⟩
    show aj T F' w' bx' θ' (.c t (ef.xs.reverse.getD e.xs.length .nil)) _
    rw[fp hef.xs]
    exact .c _ _ _ (hr.flat ht)
  |pt b ver off=>cases off<;>cases t<;>first|exact absurd (show (none:Option Ex)=some e' from h) (by simp)|exact absurd ht (by simp[CT.flat])
  |pe b ver ix off=>cases off<;>cases t<;>first|exact absurd (show (none:Option Ex)=some e' from h) (by simp)|exact absurd ht (by simp[CT.flat])
  |fa cts cs off=>cases off<;>cases t<;>first|exact absurd (show (none:Option Ex)=some e' from h) (by simp)|exact absurd ht (by simp[CT.flat])
  |_=>cases t<;>first|exact absurd (show (none:Option Ex)=some e' from h) (by simp)|exact absurd ht (by simp[CT.flat])
 |.ow n,v,val,e,e',hk,_,_=>by simp[Sk.flat] at hk
 |.mp n,v,val,e,e',hk,_,_=>by simp[Sk.flat] at hk
 |.pt n o,v,val,e,e',hk,_,_=>by simp[Sk.flat] at hk
 |.pe n o,v,val,e,e',hk,_,_=>by simp[Sk.flat] at hk
 |.fn f q,v,val,e,e',hk,_,_=>by simp[Sk.flat] at hk
 |.st ts,v,val,e,e',hk,hv,h=>by
  replace hk:bF ts=true:=hk
  cases hv with
  |ag vs o vals hl ho hr=>
   have key:∃cs,e'=⟨.p cs::e.xs,e.r,e.fz⟩∧cs.length=ts.length∧vs.length=ts.length∧∀(i:Nat) (c:C) (t:CT),cs[i]?=some c→ts[i]?=some t→vs[i]?=some (.c t c):=by
    cases o with
    |some x=>
     replace h:sif (jr ts vs) (some (⟨x::e.xs,e.r,e.fz⟩:Ex)) none=some e':=h
     cases hc:jr ts vs with
     |false=>simp[hc,sif] at h
     |true=>
      rw[hc,af] at h
      simp only[Option.some.injEq] at h
      subst h
      obtain ⟨cs,rfl,q1,q2⟩:=ho _ rfl
      obtain ⟨p1,p2⟩:=qJ hc
      refine ⟨cs,rfl,by omega,p1,fun i c t a1 a2=>?_⟩
      have hi:i<vs.length:=by rw[p1];exact (List.getElem?_eq_some_iff.1 a2).1
      obtain ⟨t',c',b1,b2⟩:=p2 i _ (List.getElem?_eq_getElem hi)
      obtain ⟨t2,b3⟩:=q2 i _ (List.getElem?_eq_getElem hi)
      rw[b2] at b3
      simp only[V.c.injEq] at b3
      rw[a2] at b1
      rw[List.getElem?_eq_getElem hi,b2,b3.2,List.getD_eq_getElem?_getD,a1,←Option.some.inj b1]
      rfl
    |none=>
     replace h:(match iV bx0 ts vs with
      |some (cs,f)=>some (⟨.p cs::e.xs,e.r,app f e.fz⟩:Ex)
      |none=>none)=some e':=h
     split at h
     ·rename_i cs f hcs
      simp only[Option.some.injEq] at h
      subst h
      obtain ⟨l1,l2,rfl,l4⟩:=GD hk hcs
      exact ⟨cs,rfl,l1,l2,l4⟩
     ·simp at h
   obtain ⟨cs,rfl,q1,q2,q3⟩:=key
   refine ⟨e.push _,fun _ _=>rfl,fun ef hef F' w' bx' θ'=>?_⟩
   show aj T F' w' bx' θ' (.ag (ec ts (ef.xs.reverse.getD e.xs.length .nil).P 0 (len ts)) (some (ef.xs.reverse.getD e.xs.length .nil))) _
   rw[fp hef.xs]
   show aj T F' w' bx' θ' (.ag (ec ts cs 0 (len ts)) (some (.p cs))) _
   refine Ba q1 (by omega) fun i c t u a1 a2 a3=>?_
   have:=hr i _ u (q3 i c t a1 a2) a3
   cases this with
   |c _ _ _ hx=>exact hx.flat (cQ hk _ _ a2)
  |_=>exact absurd (show (none:Option Ex)=some e' from h) (by simp)
 |.ag q,v,val,e,e',hk,hv,h=>by
  cases hv with
  |ag vs _ vals hl _ hr=>
   obtain ⟨h1,h2,h3,h4⟩:=Bm q vs vals e e' hk hl hr h
   exact ⟨h1,h2,fun ef hef F' w' bx' θ'=>.ag _ _ _ (by rw[bu,hl,h3]) tA (h4 ef hef F' w' bx' θ')⟩
  |_=>exact absurd (show (none:Option Ex)=some e' from h) (by simp)
 |.tu q,v,val,e,e',hk,hv,h=>by
  cases hv with
  |tu vs vals hl hr=>
   obtain ⟨h1,h2,h3,h4⟩:=Bm q vs vals e e' hk hl hr h
   exact ⟨h1,h2,fun ef hef F' w' bx' θ'=>.tu _ _ (by rw[bu,hl,h3]) (h4 ef hef F' w' bx' θ')⟩
  |_=>exact absurd (show (none:Option Ex)=some e' from h) (by simp)
theorem Bm:∀(ks:List Sk) (vs:List V) (vals:List Value) (e e':Ex),Sk.qQ ks=true→vals.length=vs.length→(∀(i:Nat) (x:V) (v:Value),vs[i]?=some x→vals[i]?=some v→aj T F w bx θ x v)→
  Sk.exts T bx0 ks vs e=some e'→e.le e'∧(∀nm xs,(Sk.insts nm xs ks e.xs.length).2=e'.xs.length)∧vs.length=ks.length∧
  ∀ef,e'.le ef→∀F' w' bx' θ',∀(i:Nat) (x:V) (v:Value),(Sk.insts nm0 ef.xs.reverse ks e.xs.length).1[i]?=some x→vals[i]?=some v→aj T F' w' bx' θ' x v
 |[],[],vals,e,e',_,hl,hr,h=>by
  replace h:some e=some e':=h
  simp only[Option.some.injEq] at h
  subst h
  exact ⟨Ex.le_refl _,fun _ _=>rfl,rfl,fun ef _ F' w' bx' θ' i x v hi=>by simp[Sk.insts] at hi⟩
 |[],_::_,vals,e,e',_,hl,hr,h=>absurd (show (none:Option Ex)=some e' from h) (by simp)
 |_::_,[],vals,e,e',_,hl,hr,h=>absurd (show (none:Option Ex)=some e' from h) (by simp)
 |k::ks,v::vs,[],e,e',_,hl,hr,h=>by simp at hl
 |k::ks,v::vs,u::us,e,e',hk,hl,hr,h=>by
  simp only[Sk.qQ,aq,Bool.and_eq_true] at hk
  replace h:(match k.ext T bx0 v e with
   |some e1=>Sk.exts T bx0 ks vs e1
   |none=>none)=some e':=h
  split at h
  ·rename_i e1 h1
   obtain ⟨a1,a2,a3⟩:=Gm k v u e e1 hk.1 (hr 0 v u rfl rfl) h1
   obtain ⟨b1,b2,b3,b4⟩:=Bm ks vs us e1 e' hk.2 (by simpa using hl) (fun i x w h1 h2=>hr (i+1) x w (by simpa using h1) (by simpa using h2)) h
   refine ⟨a1.le_trans b1,fun nm xs=>?_,by simp[b3],fun ef hef F' w' bx' θ' i x z hi hz=>?_⟩
   ·show (Sk.insts nm xs ks (k.inst nm xs e.xs.length).2).2=_
    rw[a2,b2]
   ·cases i with
    |zero=>
     simp[Sk.insts] at hi hz
     subst hi;subst hz
     exact a3 ef (b1.le_trans hef) F' w' bx' θ'
    |succ i=>
     simp only[Sk.insts,List.getElem?_cons_succ] at hi hz
     rw[a2] at hi
     exact b4 ef hef F' w' bx' θ' i x z hi hz
  ·simp at h
end
theorem DK {ρ:ca} {val:Nat→Value}:∀(q:List (Nat×Sk)) (i:Nat) (e e':Ex),uV q i=true→(∀d,i≤d→aj T F w bx θ (ρ d) (val d))→ph T ⟨ρ,bx0⟩ q e=some e'→
  e.le e'∧(∀nm xs f,(cg nm xs q e.xs.length f).2=e'.xs.length)∧
  ∀ef,e'.le ef→∀F' w' bx' θ',∀f:ca,(∀d,d<i→(cg nm0 ef.xs.reverse q e.xs.length f).1 d=f d)∧∀d,i≤d→aj T F' w' bx' θ' (f d) (val d)→aj T F' w' bx' θ' ((cg nm0 ef.xs.reverse q e.xs.length f).1 d) (val d)
 |[],i,e,e',_,hr,h=>by
  replace h:some e=some e':=h
  simp only[Option.some.injEq] at h
  subst h
  exact ⟨Ex.le_refl _,fun _ _ _=>rfl,fun ef _ F' w' bx' θ' f=>⟨fun d _=>rfl,fun d _ h=>h⟩⟩
 |(d,k)::r,i,e,e',hs,hr,h=>by
  simp only[uV,aq,Bool.and_eq_true] at hs
  have hd:=Nat.eq_of_beq_eq_true hs.1
  subst hd
  replace h:(match k.ext T bx0 (ρ d) e with
   |some e1=>ph T ⟨ρ,bx0⟩ r e1
   |none=>none)=some e':=h
  split at h
  ·rename_i e1 h1
   obtain ⟨a1,a2,a3⟩:=Gm k (ρ d) (val d) e e1 hs.2.1 (hr d (Nat.le_refl _)) h1
   obtain ⟨b1,b2,b3⟩:=DK r (d+1) e1 e' hs.2.2 (fun d' h=>hr d' (by omega)) h
   refine ⟨a1.le_trans b1,fun nm xs f=>?_,fun ef hef F' w' bx' θ' f=>?_⟩
   ·show (cg nm xs r (k.inst nm xs e.xs.length).2 _).2=_
    rw[a2,b2]
   ·obtain ⟨c1,c2⟩:=b3 ef hef F' w' bx' θ' (upd f d (k.inst nm0 ef.xs.reverse e.xs.length).1)
    have e0:cg nm0 ef.xs.reverse ((d,k)::r) e.xs.length f=cg nm0 ef.xs.reverse r e1.xs.length (upd f d (k.inst nm0 ef.xs.reverse e.xs.length).1):=by
     show cg nm0 ef.xs.reverse r (k.inst nm0 ef.xs.reverse e.xs.length).2 _=_
     rw[a2]
    rw[e0]
    refine ⟨fun d' hd=>by rw[c1 d' (by omega),aP _ _ (by omega)],fun d' hd hv=>?_⟩
    by_cases he:d'=d
    ·subst he
     rw[c1 d' (by omega),ar]
     exact a3 ef (b1.le_trans hef) F' w' bx' θ'
    ·exact c2 d' (by omega) (by rw[aP _ _ he];exact hv)
  ·simp at h
theorem DJ {fs:FS} {e:TypeId} (h:GG fs e=true):∃n q k,fs.inT=⟨(0,.ow n)::q,[(n,.arr e 2)]⟩∧fs.outT=⟨[(0,k)],[(n,.arr e 2)]⟩∧fs.ip=[n]∧k.flat=true∧uV q 1=true:=by
 unfold GG at h
 split at h
 ·rename_i n q n1 t1 k n2 t2 n3 h1 h2 h3
  simp only[aq,Bool.and_eq_true] at h
  obtain ⟨⟨⟨a1,a2⟩,a3,a4,a5⟩,a6,a7⟩:=h
  have e1:=Nat.eq_of_beq_eq_true a1;subst e1
  have e2:=Nat.eq_of_beq_eq_true a2;subst e2
  have e3:=Nat.eq_of_beq_eq_true a3;subst e3
  have e4:=Nat.eq_of_beq_eq_true a4;subst e4
  have e5:=Nat.eq_of_beq_eq_true a5;subst e5
  exact ⟨_,q,k,h1,h2,h3,a6,a7⟩
 ·simp at h
theorem il.box {e:TypeId} {de:TD} {c:C} {v:Value} (h:il T w (.sl e) c v) (hd:aV T e=some de):∃es,c=.l es∧(∃A cap,v=.slice A es.length cap)∧nC T w e es v∧(∀k,bA v=some k→InT T w (.sl e) c v k∧¬Nst T w e es v k)∧
  ∀(F:Nat→Prop) (bx:Bxs) (θ:Nat→Value) (n:Nat),θ n=v→ic T F w bx θ n (.arr 0 e es 2):=by
 cases h with
 |base _ _ _ hb hs=>
  obtain rfl:=hs e rfl
  generalize hv:Value.slice none 0 0=v at hb
  cases hb with
  |sl0 e a cap=>
   simp only[Value.slice.injEq,true_and] at hv
   obtain ⟨rfl,rfl⟩:=hv
   exact ⟨[],rfl,⟨_,_,rfl⟩,sa,fun k h=>by simp[bA] at h,fun F bx θ n hθ=>⟨de,none,0,hd,hθ,fun i c h=>by simp at h,.inl ⟨rfl,rfl,rfl⟩⟩⟩
  |sl _ _ _ _ _ _ _ _ hF=>exact hF.elim
 |sl _ d es g o cap arr hd' hg hs hc hlen hr hn hj=>
  rw[hd] at hd';obtain rfl:=Option.some.inj hd'
  refine ⟨es,rfl,⟨_,_,rfl⟩,⟨hr,hj⟩,fun k hk=>?_,fun F bx θ n hθ=>⟨de,_,cap,hd,hθ,hlen,.inr ⟨g,o,arr,rfl,hg,hs,hc,fun i c j x ct u a1 a2 a3 a4=>?_⟩⟩⟩
  ·simp only[bA,Option.some.injEq] at hk
   subst hk
   exact ⟨.root _ _ _ _ _ _,hn⟩
  ·exact hr i j ct x u ((cY hd hg).2 ⟨c,a1,a2,a3,by rw[List.getElem?_drop];simpa using a4⟩)
theorem CS {g:FuncId} {fs:FS} (hX:aG P T g fs) (hw:WR T fr F w bx θ) {b ver off:Nat} {ix:Int} {e:TypeId} {vs:List V} {args:Array Value} (hl:args.toList.length=vs.length+1)
  (hr:∀(i:Nat) (x:V) (v:Value),(V.rf b ver ix off e::vs)[i]?=some x→args.toList[i]?=some v→aj T F w bx θ x v) {k:Eff→List Nat→R} {r:Out} (h:yR T fs b ver ix off e vs bx k=some r):
  ∃e rd,k e rd=some r∧Calls P g args w fun en w'=>∃v,en=.returned v∧Aft T fr F w bx θ e v w':=by
 unfold yR at h
 replace h:=kR h;obtain ⟨y,hy,h⟩:=h
 split at h
 ·rename_i v t es m
  replace h:=kS h;obtain ⟨c1,h⟩:=h
  replace h:=kS h;obtain ⟨c2,h⟩:=h
  replace h:=kO h;obtain ⟨de,hde,h⟩:=h
  replace h:=kO h;obtain ⟨x,hx,h⟩:=h
  simp only[aq,Bool.and_eq_true] at c1
  obtain ⟨c1,c3,c4⟩:=c1
  have c1:=Nat.eq_of_beq_eq_true c1;subst c1
  have c3:=Nat.eq_of_beq_eq_true c3;subst c3
  have c2:=Nat.eq_of_beq_eq_true c2
  rw[cV] at c2
  obtain ⟨n,q,k0,f1,f2,f3,hk0,hq⟩:=DJ c4
  replace h:gB (fs.F (rev (((es.getD ix.toNat []).getD off .nil)::x.xs) [])) _=some r:=h
  unfold gB at h
  split at h
  ·rename_i ys hys
   have hlen:0<args.toList.length:=by omega
   generalize hvb:args.toList[0]=vb at*
   have hb:=hr 0 _ vb rfl (by rw[List.getElem?_eq_getElem hlen,hvb])
   cases hb with
   |rf _ _ _ _ _ _ y' hb' hv hs hh=>
   rw[hy] at hb';obtain rfl:=Option.some.inj hb'
   obtain ⟨t2,es2,d,gb,ob,capb,e1,hd,h0,hlt,hth,hoff,hcell⟩:=hh rfl rfl
   simp only[Box.arr.injEq,true_and,and_true] at e1
   obtain ⟨rfl,rfl⟩:=e1
   have hix:ix.toNat<es.length:=by omega
   obtain ⟨d2,A,cap,hd2,hth2,hrl,hA⟩:=hw.box b _ hy
   rw[hd] at hd2;obtain rfl:=Option.some.inj hd2
   rw[hth] at hth2
   simp only[Value.slice.injEq,true_and] at hth2
   obtain ⟨rfl,rfl⟩:=hth2
   rcases hA with ⟨hn,_⟩|⟨gb',ob',cs,hAe,hg,hsz,hcap,hrel⟩
   ·simp at hn
   simp only[Option.some.injEq,Addr.mk.injEq,and_true] at hAe
   obtain ⟨rfl,rfl⟩:=hAe
   have hes:es[ix.toNat]?=some es[ix.toNat]:=List.getElem?_eq_getElem hix
   have hoff':off<d.cts.length:=(List.getElem?_eq_some_iff.1 hoff).1
   have hrow:=hrl _ _ hes
   have hro:off<es[ix.toNat].length:=by omega
   have hc0:es[ix.toNat][off]?=some (es[ix.toNat][off]):=List.getElem?_eq_getElem hro
   have hgd:(es.getD ix.toNat []).getD off .nil=es[ix.toNat][off]:=by
    rw[List.getD_eq_getElem?_getD,List.getD_eq_getElem?_getD,hes]
    show (es[ix.toNat][off]?).getD .nil=_
    rw[hc0];rfl
   rw[hgd] at hys
   generalize hcc:es[ix.toNat][off]=c0 at*
   have hat:cy T w t es (θ b) ix.toNat off (.sl e) c0 vb:=⟨d,gb,ob,_,_,_,hd,hth,hes,hc0,hoff,hcell⟩
   have hlin:nC T w t es (θ b):=(hw.lin b _ hy (by decide)).1 (by decide)
   have hrl0:il T w (.sl e) c0 vb:=hlin.rel _ _ _ _ _ hat
   obtain ⟨L,rfl,⟨A0,cap0,hvs⟩,hLb,hroot,hbox⟩:=hrl0.box hde
   have hin:∀q,InT T w (.sl e) (.l L) vb q→(Box.arr v t es 2).nst T w (θ b) q:=fun q hq=>⟨by decide,_,_,_,_,_,hat,hq⟩
   obtain ⟨x1,x2,x3⟩:=DK (T:=T) (F:=F) (w:=w) (bx:=bx) (θ:=θ) (ρ:=fun k=>match k with|0=>.un|k+1=>nth .un vs k) (val:=fun d=>args.getD d undef) q 1 ⟨[],[],[]⟩ x hq (fun d hd=>by
    cases d with
    |zero=>omega
    |succ d=>
     show aj T F w bx θ (nth .un vs d) _
     rw[qI]
     simp only[List.getD_eq_getElem?_getD]
     rcases Nat.lt_or_ge d vs.length with h|h
     ·rw[List.getElem?_eq_getElem h]
      exact hr (d+1) _ _ (by simp[List.getElem?_eq_getElem h]) (by rw[Array.getElem?_toList,Array.getElem?_eq_getElem (by have:=hl;simp at this;omega)];simp[Array.getD,show d+1<args.size by have:=hl;simp at this;omega])
     ·rw[List.getElem?_eq_none h];exact .un _) (by
    have:=hx
    rw[f1] at this
    exact this)
   have hinjb:(fs.inT.inj (rev (.l L::x.xs) [])).bx=upd (fun _=>none) n (some (Box.arr 0 e L 2)):=by
    rw[f1,rev_eq,List.append_nil]
    show cd nm0 _ [(n,.arr e 2)] (cg nm0 (C.l L::x.xs).reverse q 0 (upd (fun _=>.un) 0 (.ow n 0))).2 _=_
    have:=x2 nm0 (C.l L::x.xs).reverse (upd (fun _=>.un) 0 (.ow n 0))
    simp only[List.length_nil] at this
    rw[this]
    show upd (fun _=>none) n (some (Box.arr 0 e ((C.l L::x.xs).reverse.getD x.xs.length .nil).L 2))=_
    rw[fp (x:=C.l L) (l:=x.xs) (xs:=C.l L::x.xs) ⟨[],rfl⟩];rfl
   have hinjs:(fs.inT.inj (rev (.l L::x.xs) [])).sl=(cg nm0 (C.l L::x.xs).reverse q 0 (upd (fun _=>.un) 0 (.ow n 0))).1:=by
    rw[f1,rev_eq,List.append_nil];rfl
   have one:∀m z,upd (fun _=>none) n (some (Box.arr 0 e L 2)) m=some z→m=n∧z=.arr 0 e L 2:=by
    intro m z hz
    by_cases hm:m=n
    ·subst hm;rw[ar] at hz;exact ⟨rfl,(Option.some.inj hz).symm⟩
    ·rw[aP _ _ hm] at hz;simp at hz
   have hwc:WR T ⟨w,InT T w (.sl e) (.l L) vb,F,fun _=>vb,fs.ip,fun _=>False⟩ F w (fs.inT.inj (rev (.l L::x.xs) [])).bx (fun _=>vb):=by
    rw[hinjb,f3]
    refine ⟨fun m z hz=>?_,fun m m' z z' g hz hz' _ _ _ _=>?_,fun m z g hz _ hg=>?_,hw.lt,⟨rfl,rfl,⟨rfl,Nat.le_refl _⟩,Nat.le_refl _,fun _ _ _=>rfl⟩,fun _ h=>h,fun _ h=>.inl h,fun m hm=>?_,fun m z hz=>?_,fun m z g hz hg=>?_,fun m m' z z' g hz hz' _ _=>?_,fun _ h=>h.elim⟩
    ·obtain ⟨rfl,rfl⟩:=one m z hz;exact hbox _ _ _ _ rfl
    ·exact (one m z hz).1.trans (one m' z' hz').1.symm
    ·obtain ⟨r1,_⟩:=hroot g hg
     obtain ⟨o1,o2,_⟩:=hw.own b _ g hy (hin g r1)
     exact ⟨o2 (Nat.le_refl 2),o1,.inr r1⟩
    ·obtain rfl:=List.mem_singleton.1 hm
     exact ⟨_,ar _ _ _,fun _=>⟨rfl,fun _ _ _ _ _ _ _ _ _ _ h=>h⟩⟩
    ·obtain ⟨rfl,rfl⟩:=one m z hz;exact fun _=>hLb.toM
    ·obtain ⟨rfl,rfl⟩:=one m z hz
     obtain ⟨i,j,ct,c,u,p1,p2⟩:=hg.2
     have hg':InT T w (.sl e) (.l L) vb g:=.sub _ _ _ _ _ _ _ _ _ p1 p2
     obtain ⟨o1,o2,_⟩:=hw.own b _ g hy (hin g hg')
     exact ⟨o1,fun _=>o2 (Nat.le_refl 2),fun h=>absurd (Nat.le_refl 2) h,.inr (.inl hg'),fun b' z' _ _ hk=>(hroot g hk).2 hg.2⟩
    ·exact (one m z hz).1.trans (one m' z' hz').1.symm
   have hcall:=hX.calls w _ _ _ _ (rev (.l L::x.xs) []) ys args hwc (by rw[←c2];simpa using hl) (fun d _=>by
    rw[hinjs,hinjb]
    obtain ⟨p1,p2⟩:=x3 ⟨.l L::x.xs,x.r,x.fz⟩ (x.push _) F w (upd (fun _=>none) n (some (Box.arr 0 e L 2))) (fun _=>vb) (upd (fun _=>.un) 0 (.ow n 0))
    cases d with
    |zero=>
     have:=p1 0 (by omega)
     simp only[List.length_nil] at this
     rw[this,ar]
     have ha:args.getD 0 undef=vb:=by rw[←hvb];simp[Array.getD,show 0<args.size by simpa using hlen]
     rw[ha]
     exact .ow n 0 _ _ (ar _ _ _) (Nat.le_refl _) ⟨_,_,_,hvs⟩ fun _=>⟨_,_,_,rfl,rfl⟩
    |succ d=>
     have:=p2 (d+1) (by omega) (by rw[aP _ _ (by omega)];exact .un _)
     exact this) hys
   refine ⟨_,_,h,Calls.mono hcall ?_⟩
   rintro en w' ⟨vr,F1,θ1,rfl,hw1,hv1,hkept⟩
   refine ⟨vr,rfl,?_⟩
   clear h hcall hX
   have hp0:∃p0,(k0.inst nm0 ys 0).2=p0:=⟨_,rfl⟩
   obtain ⟨p0,hp0⟩:=hp0
   have houtb:(fs.outT.inj ys).bx=upd (fun _=>none) n (some (Box.arr 0 e (ys.getD p0 .nil).L 2)):=by
    rw[f2,←hp0];rfl
   have houts:(fs.outT.inj ys).sl 0=(k0.inst nm0 ys 0).1:=by
    rw[f2]
    show upd (fun _=>V.un) 0 (k0.inst nm0 ys 0).1 0=_
    rw[ar]
   rw[houtb] at hw1 hv1 hkept
   rw[houts] at hv1
   have hnb:=ar (fun _=>(none:Option Box)) n (some (Box.arr 0 e (ys.getD p0 .nil).L 2))
   obtain ⟨hθ,hhdr⟩:=hkept n _ (by rw[f3];simp) hnb
   replace hhdr:=hhdr rfl
   generalize hL':(ys.getD p0 .nil).L=L' at*
   obtain ⟨l1,l2⟩:=qw hw1 hnb (by decide) (by decide)
   rw[hθ] at l1 l2
   have hk:=hw1.keep
   have hreg:∀q,InT T w' (.sl e) (.l L') vb q→q<w'.heap.size∧¬F q∧(w.heap.size≤q∨InT T w (.sl e) (.l L) vb q):=fun q hq=>by
    rcases l2 q hq with h|h
    ·obtain ⟨o1,o2,o3⟩:=hw1.out n _ q hnb rfl (by rw[hθ];exact h)
     exact ⟨o2,fun hF=>o1 (hw1.sub q hF),o3⟩
    ·obtain ⟨o1,o2,_,o4,_⟩:=hw1.own n _ q hnb ⟨by decide,by rw[hθ];exact h⟩
     refine ⟨o1,fun hF=>o2 (Nat.le_refl 2) (hw1.sub q hF),?_⟩
     rcases o4 with h|h|h
     ·exact .inl h
     ·exact .inr h
     ·exact h.elim
   have hkold:∀q,q<w.heap.size→¬(Box.arr v t es 2).nst T w (θ b) q→w'.heap[q]?=w.heap[q]?:=fun q h1 h2=>hk.old q h1 fun h=>h2 (hin q h)
   have hkF:∀q,F q→w'.heap[q]?=w.heap[q]?:=fun q hq=>hkold q (hw.lt q hq) fun h=>(hw.own b _ q hy h).2.1 (Nat.le_refl 2) hq
   have hkR:∀c z q,bx c=some z→z.live=true→bA (θ c)=some q→w'.heap[q]?=w.heap[q]?:=fun c z q hz hlv hg=>hkold q (hw.out c z q hz hlv hg).2.1 fun h=>(hw.own b _ q hy h).2.2.2.2 c z hz hlv hg
   have hkN:∀c z q,c≠b→bx c=some z→z.nst T w (θ c) q→w'.heap[q]?=w.heap[q]?:=fun c z q hne hz hq=>hkold q (hw.own c z q hz hq).1 fun h=>hne (hw.odj c b z _ q hz hy hq h)
   have hgb:w'.heap[gb]?=w.heap[gb]?:=hkR b _ gb hy rfl (by rw[hth];rfl)
   have hgb':w'.heap[gb]?=some (.cells cs t (0,0)):=hgb.trans hg
   have cellBack:∀i j ct c u,cy T w' t (es.set ix.toNat (aK (es.getD ix.toNat []) off [.l L'])) (θ b) i j ct c u→(i=ix.toNat∧j=off∧c=.l L'∧ct=.sl e∧u=vb)∨(¬(i=ix.toNat∧j=off)∧cy T w t es (θ b) i j ct c u∧(∀q,InT T w' ct c u q→InT T w ct c u q)∧∀q,InT T w ct c u q→w'.heap[q]?=w.heap[q]?):=by
    intro i j ct c u hcl
    have hcl:cy T w t (es.set ix.toNat (aK (es.getD ix.toNat []) off [.l L'])) (θ b) i j ct c u:=hcl.mv' fun g o n cap e1=>by
     rw[hth] at e1
     simp only[Value.slice.injEq,Option.some.injEq,Addr.mk.injEq] at e1
     obtain ⟨⟨rfl,_⟩,_⟩:=e1
     exact hgb
    rcases BZ hes hro hcl with ⟨rfl,rfl,rfl⟩|⟨hne,hcl⟩
    ·refine .inl ⟨rfl,rfl,rfl,?_⟩
     obtain ⟨d',g',o',m',cap',row,p1,p2,p3,p4,p5,p6⟩:=hcl
     rw[hd] at p1;obtain rfl:=Option.some.inj p1
     rw[hth] at p2
     simp only[Value.slice.injEq,Option.some.injEq,Addr.mk.injEq,and_true] at p2
     obtain ⟨⟨rfl,rfl⟩,_⟩:=p2
     rw[hoff] at p5
     rw[hcell] at p6
     exact ⟨(Option.some.inj p5).symm,(Option.some.inj p6).symm⟩
    ·have hsame:∀q,InT T w ct c u q→w'.heap[q]?=w.heap[q]?:=fun q hq=>by
      have hnq:(Box.arr v t es 2).nst T w (θ b) q:=⟨by decide,_,_,_,_,_,hcl,hq⟩
      exact hk.old q (hw.own b _ q hy hnq).1 fun h=>hne (hlin.dj _ _ _ _ _ _ _ _ _ _ q hcl hat hq h)
     exact .inr ⟨hne,hcl,fun q hq=>hq.mv' hsame,hsame⟩
   have hnew:∀q,Nst T w' t (es.set ix.toNat (aK (es.getD ix.toNat []) off [.l L'])) (θ b) q→(InT T w' (.sl e) (.l L') vb q)∨(Box.arr v t es 2).nst T w (θ b) q:=by
    rintro q ⟨i,j,ct,c,u,p1,p2⟩
    rcases cellBack i j ct c u p1 with ⟨_,_,rfl,rfl,rfl⟩|⟨_,h1,h2,_⟩
    ·exact .inl p2
    ·exact .inr ⟨by decide,_,_,_,_,_,h1,h2 q p2⟩
   have hrelN:∀i j ct c u,cy T w' t (es.set ix.toNat (aK (es.getD ix.toNat []) off [.l L'])) (θ b) i j ct c u→il T w' ct c u:=by
    intro i j ct c u p1
    rcases cellBack i j ct c u p1 with ⟨_,_,rfl,rfl,rfl⟩|⟨_,h1,h2,h3⟩
    ·exact l1
    ·exact (hlin.rel _ _ _ _ _ h1).mv h3
   have hlen':(es.set ix.toNat (aK (es.getD ix.toNat []) off [.l L'])).length=es.length:=List.length_set ..
   have mv:Mv F w bx θ F w' (upd bx b (some (.arr v t (es.set ix.toNat (aK (es.getD ix.toNat []) off [.l L'])) 2))) θ:=by
    refine ⟨fun _ h=>h,hkF,fun c z hz=>?_⟩
    have hh:∀g o n cap,θ c=.slice (some ⟨g,o,none⟩) n cap→z.live=true→∀p A l q,w.cell? ⟨g,p,none⟩=some (.slice A l q)→w'.cell? ⟨g,p,none⟩=some (.slice A l q):=fun g o n cap e1 hlv p A l q hc=>by
     rw[fv (hkR c z g hz hlv (by rw[e1];rfl))];exact hc
    by_cases hc:c=b
    ·subst hc
     rw[hy] at hz;obtain rfl:=Option.some.inj hz
     exact ⟨_,ar _ _ _,Nat.le_refl _,fun _=>⟨⟨rfl,hlen'.symm⟩,rfl,fun _=>⟨rfl,fun g o n cap e1=>hh g o n cap e1 rfl⟩⟩⟩
    ·refine ⟨z,by rw[aP _ _ hc];exact hz,Nat.le_refl _,fun _=>⟨z.jF,rfl,fun h=>⟨h,fun g o n cap e1=>hh g o n cap e1 ?_⟩⟩⟩
     have hm:z.m=2:=h
     cases z<;>first|rfl|simp[Box.m] at hm
   have hget:∀c z,upd bx b (some (.arr v t (es.set ix.toNat (aK (es.getD ix.toNat []) off [.l L'])) 2)) c=some z→(c=b∧z=.arr v t (es.set ix.toNat (aK (es.getD ix.toNat []) off [.l L'])) 2)∨(c≠b∧bx c=some z):=by
    intro c z hz
    by_cases hc:c=b
    ·subst hc;rw[ar] at hz;exact .inl ⟨rfl,(Option.some.inj hz).symm⟩
    ·rw[aP _ _ hc] at hz;exact .inr ⟨hc,hz⟩
   have hroots:∀c z,upd bx b (some (.arr v t (es.set ix.toNat (aK (es.getD ix.toNat []) off [.l L'])) 2)) c=some z→z.live=true→∃z',bx c=some z'∧z'.live=true:=by
    intro c z hz hlv
    rcases hget c z hz with ⟨rfl,rfl⟩|⟨_,h⟩
    ·exact ⟨_,hy,rfl⟩
    ·exact ⟨z,h,hlv⟩
   have hbk:∀c z q,c≠b→bx c=some z→z.nst T w' (θ c) q→z.nst T w (θ c) q:=fun c z q hne hz hq=>by
    have hlv:z.live=true:=by cases z<;>first|rfl|exact hq.elim
    exact ym hq (fun g hg=>hkR c z g hz hlv hg) fun q hq=>hkN c z q hne hz hq
   have hwr:∀q,InT T w (.sl e) (.l L) vb q→fr.w0.heap.size≤q∨fr.wr q:=fun q hq=>by
    obtain ⟨_,o2,_,o4,_⟩:=hw.own b _ q hy (hin q hq)
    rcases o4 with h|h|h
    ·exact .inl h
    ·exact .inr h
    ·exact absurd (hw.nlF q h) (o2 (Nat.le_refl 2))
   have hback2:∀q,Nst T w' t (es.set ix.toNat (aK (es.getD ix.toNat []) off [.l L'])) (θ b) q→q<w'.heap.size∧¬F q∧(w.heap.size≤q∨(Box.arr v t es 2).nst T w (θ b) q):=fun q hq=>by
    rcases hnew q hq with h|h
    ·obtain ⟨r1,r2,r3⟩:=hreg q h
     exact ⟨r1,r2,r3.imp id (hin q)⟩
    ·obtain ⟨o1,o2,_⟩:=hw.own b _ q hy h
     exact ⟨Nat.lt_of_lt_of_le o1 hk.size,o2 (Nat.le_refl 2),.inr h⟩
   have hsl0:fs.outT.sl=[(0,k0)]:=by rw[f2]
   rw[hsl0]
   show Aft T fr F w bx θ ⟨(k0.inst nm0 ys 0).1,[(b,.arr v t (es.set ix.toNat (aK (es.getD ix.toNat []) off [.l (ys.getD (k0.inst nm0 ys 0).2 .nil).L])) 2)]⟩ vr w'
   rw[hp0,hL']
   refine ⟨F,θ,⟨?_,?_,?_,fun q hq=>Nat.lt_of_lt_of_le (hw.lt q hq) hk.size,?_,hw.sub,hw.new,pM hw.stay mv,?_,?_,?_,hw.nlF⟩,mv,?_⟩
   ·intro c z hz
    rcases hget c z hz with ⟨rfl,rfl⟩|⟨hne,h⟩
    ·refine ⟨d,_,_,hd,by rw[hlen'];exact hth,fun i row hrw=>?_,.inr ⟨gb,ob,cs,rfl,hgb',hsz,by rw[hlen'];exact hcap,fun i row j z ct u a1 a2 a3 a4=>?_⟩⟩
     ·rw[List.getElem?_set] at hrw
      by_cases hi:ix.toNat=i
      ·subst hi
       rw[if_pos rfl,if_pos hix] at hrw
       obtain rfl:=Option.some.inj hrw
       have hgr:es.getD ix.toNat []=es[ix.toNat]:=by rw[List.getD_eq_getElem?_getD,hes];rfl
       rw[hgr]
       unfold aK
       rw[dX (by simp;omega)];exact hrow
      ·rw[if_neg hi] at hrw
       exact hrl _ _ hrw
     ·refine hrelN i j ct z u ?_
      rw[hth]
      exact (cY hd hgb').2 ⟨row,a1,a2,a3,by rw[List.getElem?_drop];simpa using a4⟩
    ·cases hlv:z.live with
     |true=>exact (hw.box c z h).mv mv rfl (fun g hg=>hkR c z g h hlv hg) fun q hq=>hkN c z q hne h hq
     |false=>cases z<;>first|trivial|simp[Box.live] at hlv
   ·intro c c' z z' g hz hz' hlv hlv' hg hg'
    obtain ⟨y1,a1,a2⟩:=hroots c z hz hlv
    obtain ⟨y2,b1,b2⟩:=hroots c' z' hz' hlv'
    exact hw.disj c c' y1 y2 g a1 b1 a2 b2 hg hg'
   ·intro c z g hz hlv hg
    obtain ⟨y1,a1,a2⟩:=hroots c z hz hlv
    obtain ⟨o1,o2,o3⟩:=hw.out c y1 g a1 a2 hg
    exact ⟨o1,Nat.lt_of_lt_of_le o2 hk.size,o3⟩
   ·refine hw.keep.next hk.os hk.tape hk.output hk.size fun q h1 h2=>hk.old q (Nat.lt_of_lt_of_le h1 hw.keep.size) fun h=>?_
    rcases hwr q h with h|h
    ·omega
    ·exact h2 h
   ·intro c z hz
    rcases hget c z hz with ⟨rfl,rfl⟩|⟨hne,h⟩
    ·refine fun _=>nC.toM ⟨hrelN,fun i j ct c u i' j' ct' c' u' q p1 p2 p3 p4=>?_⟩
     rcases cellBack i j ct c u p1 with ⟨rfl,rfl,rfl,rfl,rfl⟩|⟨hne1,h1,h2,h3⟩<;>rcases cellBack i' j' ct' c' u' p2 with ⟨rfl,rfl,rfl,rfl,rfl⟩|⟨hne2,h1',h2',h3'⟩
     ·exact ⟨rfl,rfl⟩
     ·exfalso
      have hq2:=h2' q p4
      rcases (hreg q p3).2.2 with h|h
      ·have:=(hw.own _ _ q hy ⟨by decide,_,_,_,_,_,h1',hq2⟩).1;omega
      ·exact hne2 (hlin.dj _ _ _ _ _ _ _ _ _ _ q h1' hat hq2 h)
     ·exfalso
      have hq2:=h2 q p3
      rcases (hreg q p4).2.2 with h|h
      ·have:=(hw.own _ _ q hy ⟨by decide,_,_,_,_,_,h1,hq2⟩).1;omega
      ·exact hne1 (hlin.dj _ _ _ _ _ _ _ _ _ _ q h1 hat hq2 h)
     ·exact hlin.dj _ _ _ _ _ _ _ _ _ _ q h1 h1' (h2 q p3) (h2' q p4)
    ·cases hlv:z.live with
     |true=>exact yq (hw.lin c z h) (fun g hg=>hkR c z g h hlv hg) fun q hq=>hkN c z q hne h hq
     |false=>cases z<;>first|trivial|simp[Box.live] at hlv
   ·intro c z q hz hq
    rcases hget c z hz with ⟨rfl,rfl⟩|⟨hne,h⟩
    ·obtain ⟨r1,r2,r3⟩:=hback2 q hq.2
     refine ⟨r1,fun _=>r2,fun h=>absurd (Nat.le_refl 2) h,?_,fun c' z' hz' hlv' hg'=>?_⟩
     ·rcases r3 with h|h
      ·exact .inl (Nat.le_trans hw.keep.size h)
      ·exact (hw.own _ _ q hy h).2.2.2.1
     ·obtain ⟨y1,a1,a2⟩:=hroots c' z' hz' hlv'
      rcases r3 with h|h
      ·have:=(hw.out c' y1 q a1 a2 hg').2.1;omega
      ·exact (hw.own _ _ q hy h).2.2.2.2 c' y1 a1 a2 hg'
    ·obtain ⟨o1,o2,o3,o4,o5⟩:=hw.own c z q h (hbk c z q hne h hq)
     refine ⟨Nat.lt_of_lt_of_le o1 hk.size,o2,o3,o4,fun c' z' hz' hlv' hg'=>?_⟩
     obtain ⟨y1,a1,a2⟩:=hroots c' z' hz' hlv'
     exact o5 c' y1 a1 a2 hg'
   ·have cross:∀c z q,c≠b→bx c=some z→z.nst T w' (θ c) q→Nst T w' t (es.set ix.toNat (aK (es.getD ix.toNat []) off [.l L'])) (θ b) q→False:=by
     intro c z q hne h hq hq'
     have hq:=hbk c z q hne h hq
     rcases (hback2 q hq').2.2 with h1|h1
     ·have:=(hw.own c z q h hq).1;omega
     ·exact hne (hw.odj c b z _ q h hy hq h1)
    intro c c' z z' q hz hz' hq hq'
    rcases hget c z hz with ⟨rfl,rfl⟩|⟨hne,h⟩<;>rcases hget c' z' hz' with ⟨rfl,rfl⟩|⟨hne',h'⟩
    ·rfl
    ·exact (cross c' z' q hne' h' hq' hq.2).elim
    ·exact (cross c z q hne h hq hq'.2).elim
    ·exact hw.odj c c' z z' q h h' (hbk c z q hne h hq) (hbk c' z' q hne' h' hq')
   ·exact (tY (nm:=nm0) ys k0 0 hk0 vr hv1).1
  ·simp at h
 ·exact (aD h).elim
end
end Go.Ev
namespace Go.Ev
section
variable {P:Program} {X:Cx} {fr:Fr} {F:Nat→Prop} {w:World} {bx:Bxs} {θ:Nat→Value}
theorem DH {T:Tys} {t:TypeId} {v:V} {u:Value} (h:aj T F w bx θ v u):aj T F w bx θ (DI T t v) u:=by
 unfold DI
 split
 ·rename_i cts cs
  split
  ·rename_i e cts' n ht
   split
   ·rename_i d hd
    cases hc:nS cts d.cts with
    |false=>exact h
    |true=>
     rw[af]
     have:=vZ hc
     subst this
     cases h with
     |fa _ _ _ g o cv hF hlen hcc hr=>exact .c _ _ _ (.pt e d cs g o cv hd hF hlen hcc hr)
   ·exact h
  ·exact h
 ·exact h
theorem xq {T:Tys}:∀(ts:List TypeId) {vs:List V} {us:List Value},(us.length=vs.length∧∀(i:Nat) (y:V) (u:Value),vs[i]?=some y→us[i]?=some u→aj T F w bx θ y u)→
  us.length=(l6 T ts vs).length∧∀(i:Nat) (y:V) (u:Value),(l6 T ts vs)[i]?=some y→us[i]?=some u→aj T F w bx θ y u
 |[],vs,us,h=>by cases vs<;>exact h
 |t::ts,[],us,h=>h
 |t::ts,v::vs,[],h=>by simp at h
 |t::ts,v::vs,u::us,h=>by
  obtain ⟨h1,h2⟩:=h
  obtain ⟨a,b⟩:=xq ts (vs:=vs) (us:=us) ⟨by simpa using h1,fun i y u q1 q2=>h2 (i+1) y u (by simpa using q1) (by simpa using q2)⟩
  refine ⟨by simp[l6,←a],fun i y u' q1 q2=>?_⟩
  cases i with
  |zero=>
   simp[l6] at q1 q2
   subst q1;subst q2
   exact DH (h2 0 v u rfl rfl)
  |succ i=>exact b i y u' (by simpa [l6] using q1) (by simpa using q2)
theorem Dp {T:Tys} {tr:Nat→Bool} {g:FuncId} {fs:FS} (hX:aG P T g fs) (hw:WR T fr F w bx θ) {vs:List V} {args:Array Value} (hl:args.toList.length=vs.length)
  (hr:∀(i:Nat) (x:V) (v:Value),vs[i]?=some x→args.toList[i]?=some v→aj T F w bx θ x v) {d:Nat} {k:Eff→List Nat→R} {r:Out} (h:vV T tr fs d vs bx k=some r):
  ∃e rd,k e rd=some r∧Calls P g args w fun en w'=>∃v,en=.returned v∧Aft T fr F w bx θ e v w':=by
 unfold vV at h
 split at h
 ·obtain ⟨e,rd,h1,h2⟩:=CS hX hw (by simpa using hl) hr h
  exact ⟨e,rd,h1,h2⟩
 ·exact Ep hX hw hl hr h
theorem Ea (hX:Env P X) (hw:WR X.T fr F w bx θ) {ρ:ca} {a:Act} (ho:∀x,aj X.T F w bx θ (bP ρ x) (a.eval x)) {o:Oper} {k:Eff→List Nat→R} {r:Out} {c:Call} {f:Operand}
  (hop:o.op=.call c) (hc:c.callee=.value f) (h:j6 X o.dst ρ c bx k=some r):Good P X.T fr F w bx θ o a k r:=by
 obtain ⟨dst,op,type,pos,after,guard⟩:=o
 obtain ⟨callee,args,argTypes⟩:=c
 simp only at hop hc
 subst hc
 subst hop
 replace h:(match bP ρ f with
  |.fn g caps=>(do let fs←opt (X.Φ g dst);vV X.T (GM X fs) fs (lk dst) (app (l6 X.T argTypes.toList (im ρ args.toList)) caps):M Eff)
  |_=>M.fail) bx k=some r:=h
 have hf:=ho f
 generalize bP ρ f=cz at h hf
 cases cz with
 |fn g caps=>
  replace h:(do let fs←opt (X.Φ g dst);vV X.T (GM X fs) fs (lk dst) (app (l6 X.T argTypes.toList (im ρ args.toList)) caps):M Eff) bx k=some r:=h
  replace h:=kO h;obtain ⟨fs,hfs,hk⟩:=h
  have hok:=hX.Φ _ _ _ hfs
  rw[ff] at hk
  generalize hv:a.eval f=v at hf
  cases hf with
  |fn _ l us hl hr=>
   obtain ⟨h1,h2⟩:=xq argTypes.toList (nZ ho args.toList)
   have e1:(args.map a.eval++us.toArray).toList=args.toList.map a.eval++us:=by simp
   obtain ⟨e,rd,g1,g2⟩:=Dp hok hw (args:=args.map a.eval++us.toArray) (vs:=l6 X.T argTypes.toList (im ρ args.toList)++caps) (by rw[e1,List.length_append,List.length_append,h1,hl])
    (fun i x v a1 a2=>by
     rw[e1] at a2
     rw[List.getElem?_append] at a1 a2
     rw[h1] at a2
     split at a1
     ·rename_i hi;rw[if_pos hi] at a2;exact h2 i x v a1 a2
     ·rename_i hi;rw[if_neg hi] at a2;exact hr _ x v a1 a2) hk
   refine ⟨e,_,g1,OpR.enter (f:=g) (args:=args.map a.eval++us.toArray) (w':=w) ?_ g2⟩
   obtain ⟨fn,cc,q1,q2,q3⟩:=hok.fn
   simp only[beq_eq_false_iff_ne,ne_eq] at q3
   simp[execOp,resolve,hv,Deferred.ofValue,invoke,callFunc,q1,q2,q3]
 |_=>exact (fe (bx:=bx) (k:=k) h).elim
theorem Ak (hX:Env P X) (hw:WR X.T fr F w bx θ) {ρ:ca} {a:Act} (ho:∀x,aj X.T F w bx θ (bP ρ x) (a.eval x)) {o:Oper} {k:Eff→List Nat→R} {r:Out}
  (h:evalOp X o.dst ρ o.op bx k=some r):Good P X.T fr F w bx θ o a k r:=
 Cz hX hw ho (fun c f h1 h2 h3=>Ea hX hw ho h1 h2 h3) h
def Loc {α:Type} (m:M α):Prop:=∀(bx:Bxs) (k:α→List Nat→R) (r:Out),m bx k=some r→∃a rd,k a rd=some r∧∀bx':Bxs,(∀b,b∈rd→bx' b=bx b)→∀k',m bx' k'=k' a rd
theorem Loc.ret {α:Type} (a:α):Loc (M.ret a):=fun bx k r h=>⟨a,[],h,fun _ _ _=>rfl⟩
theorem Loc.pure {α:Type} (a:α):Loc (pure a:M α):=Loc.ret a
theorem Loc.fail {α:Type}:Loc (M.fail:M α):=fun bx k r h=>(aD h).elim
theorem Loc.opt {α:Type} (o:Option α):Loc (opt o):=fun bx k r h=>by
 obtain ⟨a,rfl,hk⟩:=ux h
 exact ⟨a,[],hk,fun _ _ _=>rfl⟩
theorem Loc.chk (p:Bool):Loc (chk p):=fun bx k r h=>by
 obtain ⟨rfl,hk⟩:=Ct h
 exact ⟨(),[],hk,fun _ _ _=>rfl⟩
theorem Loc.aW (p:Bool):Loc (aW p):=fun bx k r h=>by
 obtain ⟨rfl,hk⟩:=Ap h
 exact ⟨(),[],hk,fun _ _ _=>rfl⟩
theorem Loc.bK (b:Nat):Loc (bK b):=fun bx k r h=>by
 obtain ⟨x,hx,hk⟩:=xC h
 exact ⟨x,[b],hk,fun bx' hb k'=>by unfold Ev.bK;rw[hb b (List.mem_cons_self ..),hx]⟩
theorem Loc.cR (b:Nat):Loc (cR b):=fun bx k r h=>
 ⟨_,[b],h,fun bx' hb k'=>by unfold Ev.cR;rw[hb b (List.mem_cons_self ..)]⟩
theorem Loc.bind {α β:Type} {m:M α} {f:α→M β} (h:Loc m) (hf:∀a,Loc (f a)):Loc (m>>= f):=fun bx k r hk=>by
 rw[bnd] at hk
 obtain ⟨a,rd,h1,h2⟩:=h bx _ r hk
 obtain ⟨b,rd',h3,h4⟩:=hf a bx _ r h1
 refine ⟨b,app rd rd',h3,fun bx' hb k'=>?_⟩
 rw[ff] at hb
 rw[bnd,h2 bx' (fun b hb'=>hb b (List.mem_append_left _ hb')),h4 bx' fun b hb'=>hb b (List.mem_append_right _ hb')]
theorem Loc.rv (v:V):Loc (rv v):=Loc.ret _
theorem Loc.cond {α:Type} {p:Bool} {m m':M α} (h:Loc m) (h':Loc m'):Loc (fun bx k=>cond p (m bx k) (m' bx k)):=by
 cases p<;>assumption
theorem cE:∀l:List V,Loc (th l)
 |[]=>Loc.ret _
 |x::l=>by
  cases x with
  |ow b ver=>
   refine Loc.bind (Loc.bK _) fun y=>?_
   split
   ·exact Loc.bind (Loc.aW _) fun _=>Loc.bind (cE l) fun _=>Loc.ret _
   ·exact Loc.fail
  |_=>exact cE l
theorem ck:∀l:List V,Loc (oX l)
 |[]=>Loc.ret _
 |x::l=>by
  cases x with
  |ow b ver=>
   refine Loc.bind (Loc.bK _) fun y=>?_
   split
   ·exact Loc.bind (ck l) fun _=>Loc.ret _
   ·exact Loc.fail
  |c t x=>exact Loc.bind (ck l) fun _=>Loc.ret _
  |nl=>exact ck l
  |np=>exact ck l
  |_=>exact Loc.ret _
theorem Loc.sif {α:Type} {p:Bool} {m m':M α} (h:Loc m) (h':Loc m'):Loc (Ev.sif p m m'):=by
 cases p<;>assumption
theorem xx (T:Tys) (v:V):Loc (xJ T v):=by
 unfold xJ
 split
 ·exact Loc.bind (Loc.opt _) fun _=>Loc.bind (Loc.chk _) fun _=>Loc.ret _
 ·exact Loc.ret _
theorem wQ (T:Tys) (s:TypeId) (f:Nat) (x:V):Loc (kX T s f x):=by unfold kX;repeat (first|exact cE _|exact ck _|exact Loc.rv _|exact Loc.ret _|exact Loc.fail|exact Loc.opt _|exact Loc.chk _|exact Loc.aW _|exact Loc.bK _|exact Loc.cR _|exact Loc.pure _|refine Loc.bind ?_ (fun _=>?_)|refine Loc.sif ?_ ?_|split)
theorem AA (T:Tys) (t:TypeId) (x:V):Loc (xc T t x):=by unfold xc;repeat (first|exact cE _|exact ck _|exact Loc.rv _|exact Loc.ret _|exact Loc.fail|exact Loc.opt _|exact Loc.chk _|exact Loc.aW _|exact Loc.bK _|exact Loc.cR _|exact Loc.pure _|refine Loc.bind ?_ (fun _=>?_)|refine Loc.sif ?_ ?_|split)
theorem AU (T:Tys) (t:TypeId) (x:V):Loc (wB T t x):=by unfold wB;repeat (first|exact cE _|exact ck _|exact Loc.rv _|exact Loc.ret _|exact Loc.fail|exact Loc.opt _|exact Loc.chk _|exact Loc.aW _|exact Loc.bK _|exact Loc.cR _|exact Loc.pure _|refine Loc.bind ?_ (fun _=>?_)|refine Loc.sif ?_ ?_|split)
theorem G8 (T:Tys) (t:TypeId) (x:V):Loc (ldV T t x):=by
 unfold ldV
 split
 ·refine Loc.bind (Loc.bK _) fun y=>?_
  split
  ·exact Loc.sif (AU _ _ _) (AA _ _ _)
  ·exact Loc.fail
 ·exact AA _ _ _
theorem w9 (T:Tys) (t:TypeId) (x y:V):Loc (nw T t x y):=by unfold nw;repeat (first|exact cE _|exact ck _|exact Loc.rv _|exact Loc.ret _|exact Loc.fail|exact Loc.opt _|exact Loc.chk _|exact Loc.aW _|exact Loc.bK _|exact Loc.cR _|exact Loc.pure _|refine Loc.bind ?_ (fun _=>?_)|refine Loc.sif ?_ ?_|split)
theorem Fj (T:Tys) (t:TypeId) (x y:V):Loc (Dl T t x y):=by
 unfold Dl
 split
 ·refine Loc.bind (Loc.bK _) fun y=>?_
  split
  ·refine Loc.sif ?_ (w9 _ _ _ _)
   unfold ue
   repeat (first|exact cE _|exact ck _|exact Loc.rv _|exact Loc.ret _|exact Loc.fail|exact Loc.opt _|exact Loc.chk _|exact Loc.aW _|exact Loc.bK _|exact Loc.cR _|exact Loc.pure _|refine Loc.bind ?_ (fun _=>?_)|refine Loc.sif ?_ ?_|split)
  ·exact Loc.fail
 ·exact w9 _ _ _ _
theorem wZ (T:Tys) (t:TypeId) (x i:V):Loc (lu T t x i):=by unfold lu;repeat (first|exact cE _|exact ck _|exact Loc.rv _|exact Loc.ret _|exact Loc.fail|exact Loc.opt _|exact Loc.chk _|exact Loc.aW _|exact Loc.bK _|exact Loc.cR _|exact Loc.pure _|refine Loc.bind ?_ (fun _=>?_)|refine Loc.sif ?_ ?_|split)
theorem Di (T:Tys) (t:TypeId) (x i:V):Loc (vp T t x i):=by unfold vp;repeat (first|exact cE _|exact ck _|exact Loc.rv _|exact Loc.ret _|exact Loc.fail|exact Loc.opt _|exact Loc.chk _|exact Loc.aW _|exact Loc.bK _|exact Loc.cR _|exact Loc.pure _|refine Loc.bind ?_ (fun _=>?_)|refine Loc.sif ?_ ?_|split)
theorem o8 (e:TypeId) (x:V):Loc (ib e x):=by unfold ib;repeat (first|exact cE _|exact ck _|exact Loc.rv _|exact Loc.ret _|exact Loc.fail|exact Loc.opt _|exact Loc.chk _|exact Loc.aW _|exact Loc.bK _|exact Loc.cR _|exact Loc.pure _|refine Loc.bind ?_ (fun _=>?_)|refine Loc.sif ?_ ?_|split)
theorem Ff (T:Tys) (t:TypeId) (x:V):Loc (BE T t x):=by unfold BE;repeat (first|exact cE _|exact ck _|exact Loc.rv _|exact Loc.ret _|exact Loc.fail|exact Loc.opt _|exact Loc.chk _|exact Loc.aW _|exact Loc.bK _|exact Loc.cR _|exact Loc.pure _|refine Loc.bind ?_ (fun _=>?_)|refine Loc.sif ?_ ?_|split)
theorem CX (T:Tys) (t:TypeId) (x:V) (lo hi:Option V):Loc (qW T t x lo hi):=by unfold qW;repeat (first|exact cE _|exact ck _|exact Loc.rv _|exact Loc.ret _|exact Loc.fail|exact Loc.opt _|exact Loc.chk _|exact Loc.aW _|exact Loc.bK _|exact Loc.cR _|exact Loc.pure _|refine Loc.bind ?_ (fun _=>?_)|refine Loc.sif ?_ ?_|split)
theorem y9 (T:Tys) (x:V):Loc (mB T x):=by unfold mB;repeat (first|exact cE _|exact ck _|exact Loc.rv _|exact Loc.ret _|exact Loc.fail|exact Loc.opt _|exact Loc.chk _|exact Loc.aW _|exact Loc.bK _|exact Loc.cR _|exact Loc.pure _|refine Loc.bind ?_ (fun _=>?_)|refine Loc.sif ?_ ?_|split)
theorem C5 (T:Tys) (t:TypeId) (ρ:ca) (ps:List (Nat×Operand)):Loc (sw T t ρ ps):=by unfold sw;repeat (first|exact cE _|exact ck _|exact Loc.rv _|exact Loc.ret _|exact Loc.fail|exact Loc.opt _|exact Loc.chk _|exact Loc.aW _|exact Loc.bK _|exact Loc.cR _|exact Loc.pure _|refine Loc.bind ?_ (fun _=>?_)|refine Loc.sif ?_ ?_|split)
theorem vX (T:Tys) (t:TypeId) (n d:Nat) (ρ:ca) (ps:List (Nat×Operand)):Loc (iM T t n d ρ ps):=by unfold iM;repeat (first|exact cE _|exact ck _|exact Loc.rv _|exact Loc.ret _|exact Loc.fail|exact Loc.opt _|exact Loc.chk _|exact Loc.aW _|exact Loc.bK _|exact Loc.cR _|exact Loc.pure _|refine Loc.bind ?_ (fun _=>?_)|refine Loc.sif ?_ ?_|split)
theorem DX (T:Tys) (t:TypeId) (d:Nat) (x y:V):Loc (lr T t d x y):=by unfold lr;repeat (first|exact cE _|exact ck _|exact Loc.rv _|exact Loc.ret _|exact Loc.fail|exact Loc.opt _|exact Loc.chk _|exact Loc.aW _|exact Loc.bK _|exact Loc.cR _|exact Loc.pure _|refine Loc.bind ?_ (fun _=>?_)|refine Loc.sif ?_ ?_|split)
theorem Cw (T:Tys) (s:TypeId) (f:Nat) (x:V):Loc (vK T s f x):=by unfold vK;repeat (first|exact cE _|exact ck _|exact Loc.rv _|exact Loc.ret _|exact Loc.fail|exact Loc.opt _|exact Loc.chk _|exact Loc.aW _|exact Loc.bK _|exact Loc.cR _|exact Loc.pure _|refine Loc.bind ?_ (fun _=>?_)|refine Loc.sif ?_ ?_|split)
theorem Fb (X:Cx) (x:V):Loc (mvK X x):=by unfold mvK;repeat (first|exact cE _|exact ck _|exact Loc.rv _|exact Loc.ret _|exact Loc.fail|exact Loc.opt _|exact Loc.chk _|exact Loc.aW _|exact Loc.bK _|exact Loc.cR _|exact Loc.pure _|refine Loc.bind ?_ (fun _=>?_)|refine Loc.sif ?_ ?_|split)
theorem AL (X:Cx) (t:TypeId) (d:Nat) (s x:V):Loc (qT X t d s x):=by
 unfold qT
 refine Loc.bind (Loc.opt _) fun _=>Loc.bind (Loc.opt _) fun _=>Loc.bind (Loc.aW _) fun _=>Loc.bind (o8 _ _) fun _=>Loc.bind (Fb _ _) fun _=>?_
 repeat (first|exact cE _|exact ck _|exact Loc.rv _|exact Loc.ret _|exact Loc.fail|exact Loc.opt _|exact Loc.chk _|exact Loc.aW _|exact Loc.bK _|exact Loc.cR _|exact Loc.pure _|refine Loc.bind ?_ (fun _=>?_)|refine Loc.sif ?_ ?_|split)
theorem FO (X:Cx) (t:TypeId) (d:Nat) (s x:V):Loc (AY X t d s x):=by
 unfold AY
 split
 ·unfold uh
  refine Loc.bind (Loc.opt _) fun _=>Loc.bind (Loc.opt _) fun _=>Loc.bind (Loc.aW _) fun _=>Loc.bind (o8 _ _) fun _=>?_
  repeat (first|exact cE _|exact ck _|exact Loc.rv _|exact Loc.ret _|exact Loc.fail|exact Loc.opt _|exact Loc.chk _|exact Loc.aW _|exact Loc.bK _|exact Loc.cR _|exact Loc.pure _|refine Loc.bind ?_ (fun _=>?_)|refine Loc.sif ?_ ?_|split)
 ·exact AL _ _ _ _ _
theorem zV (T:Tys) (s d:TypeId) (x:V):Loc (od T s d x):=by unfold od;repeat (first|exact cE _|exact ck _|exact Loc.rv _|exact Loc.ret _|exact Loc.fail|exact Loc.opt _|exact Loc.chk _|exact Loc.aW _|exact Loc.bK _|exact Loc.cR _|exact Loc.pure _|refine Loc.bind ?_ (fun _=>?_)|refine Loc.sif ?_ ?_|split)
theorem Du (T:Tys) (s d:TypeId) (x:V):Loc (Cb T s d x):=Loc.sif (Loc.bind (Loc.opt _) fun _=>Loc.bind (Loc.opt _) fun _=>Loc.bind (Loc.aW _) fun _=>Loc.bind (o8 _ _) fun _=>Loc.rv _) (zV _ _ _ _)
theorem AX (mx:Bool):∀(l:List V) (v:V),Loc (mmV mx v l)
 |[],v=>by
  have:mmV mx v []=rv v:=by cases v<;>rfl
  rw[this];exact Loc.rv _
 |y::r,v=>by
  have other:(mmV mx v (y::r)=M.fail)∨∃k x k' x',v=.c (.int k) x∧y=.c (.int k') x':=by
   cases v with
   |c t x=>cases t with
    |int k=>cases y with
     |c t' x'=>cases t' with
      |int k'=>exact .inr ⟨k,x,k',x',rfl,rfl⟩
      |_=>exact .inl rfl
     |_=>exact .inl rfl
    |_=>exact .inl (by cases y<;>first|rfl|(rename_i t2 c2;cases t2<;>rfl))
   |_=>exact .inl (by cases y<;>first|rfl|(rename_i t2 c2;cases t2<;>rfl))
  rcases other with h|⟨k,x,k',x',rfl,rfl⟩
  ·rw[h];exact Loc.fail
  ·exact Loc.bind (Loc.aW _) fun _=>AX mx r _
theorem Fg (T:Tys) (op:BinOp) (t:TypeId) (x y:V):Loc (CA T op t x y):=by unfold CA;repeat (first|exact cE _|exact ck _|exact Loc.rv _|exact Loc.ret _|exact Loc.fail|exact Loc.opt _|exact Loc.chk _|exact Loc.aW _|exact Loc.bK _|exact Loc.cR _|exact Loc.pure _|refine Loc.bind ?_ (fun _=>?_)|refine Loc.sif ?_ ?_|split)
theorem DF (x:C) (a b:V):Loc (zu x a b):=by
 unfold zu
 cases asC a with
 |none=>exact Loc.cond (Loc.rv _) (Loc.rv _)
 |some p=>cases asC b with
  |none=>exact Loc.cond (Loc.rv _) (Loc.rv _)
  |some q=>exact Loc.bind (Loc.aW _) fun _=>Loc.rv _
end
end Go.Ev
namespace Go.Ev
section
variable {T:Tys} {bx bx':Bxs}
structure Ag (bx bx':Bxs) (e:Ex):Prop where
 r:∀n b,e.r.find n=some (some b)→bx' b=bx b
 fz:∀b,b∈e.fz→bx' b=bx b
theorem Ag.le {e e':Ex} (h:e.le e') (a:Ag bx bx' e'):Ag bx bx' e:=⟨fun n b hf=>a.r n b (h.r _ _ hf),fun b hb=>a.fz b (h.fz b hb)⟩
theorem jO {b ver:Nat} (h:bx' b=bx b):cU bx' b ver=cU bx b ver:=by unfold cU;rw[h]
theorem CN {t:CT} {v:V} {c:C} {f:List Nat} (h:uR bx t v=some (c,f)) (ha:∀b,b∈f→bx' b=bx b):uR bx' t v=some (c,f):=by
 cases v with
 |ow b ver=>
  cases t with
  |sl t=>
   replace h:(match cU bx b ver with|some (t',es)=>sif (Nat.beq t t') (some (C.l es,[b])) none|none=>none)=some (c,f):=h
   have hf:f=[b]:=by
    split at h
    ·rename_i t' es hl
     cases ht:Nat.beq t t' with
     |false=>rw[ht,aR] at h;simp at h
     |true=>rw[ht,af] at h;simp at h;exact h.2.symm
    ·simp at h
   subst hf
   show (match cU bx' b ver with|some (t',es)=>sif (Nat.beq t t') (some (C.l es,[b])) none|none=>none)=_
   rw[jO (ha b (by simp))]
   exact h
  |_=>exact absurd (show (none:Option (C×List Nat))=some (c,f) from h) (by simp)
 |_=>cases t<;>exact h
theorem wH:∀ {cts:List CT} {cells:List V} {cs:List C} {f:List Nat},iV bx cts cells=some (cs,f)→(∀b,b∈f→bx' b=bx b)→iV bx' cts cells=some (cs,f)
 |[],[],cs,f,h,_=>h
 |[],_::_,cs,f,h,_=>h
 |_::_,[],cs,f,h,_=>h
 |t::ts,v::vs,cs,f,h,ha=>by
  replace h:(match uR bx t v with
   |some (x,f)=>match iV bx ts vs with
    |some (xs,g)=>some (x::xs,app f g)
    |none=>none
   |none=>none)=some (cs,f):=h
  split at h
  ·rename_i x f1 h1
   split at h
   ·rename_i xs g h2
    simp only[Option.some.injEq,Prod.mk.injEq] at h
    obtain ⟨rfl,rfl⟩:=h
    rw[ff] at ha
    have e1:=CN h1 fun b hb=>ha b (List.mem_append_left _ hb)
    have e2:=wH h2 fun b hb=>ha b (List.mem_append_right _ hb)
    show (match uR bx' t v with
     |some (x,f)=>match iV bx' ts vs with
      |some (xs,g)=>some (x::xs,app f g)
      |none=>none
     |none=>none)=_
    rw[e1]
    show (match iV bx' ts vs with
      |some (xs,g)=>some (x::xs,app f1 g)
      |none=>none)=_
    rw[e2]
   ·simp at h
  ·simp at h
mutual
theorem BS:∀(k:Sk) (v:V) (e e':Ex),k.ext T bx v e=some e'→e.le e'∧∀bx':Bxs,Ag bx bx' e'→k.ext T bx' v e=some e'
 |.un,v,e,e',h=>by
  replace h:some e=some e':=by cases v<;>exact h
  simp only[Option.some.injEq] at h
  subst h
  exact ⟨Ex.le_refl _,fun _ _=>by cases v<;>rfl⟩
 |.d t,v,e,e',h=>by
  have nope:∀ {P:Prop},(none:Option Ex)=some e'→P:=fun h=>absurd h (by simp)
  cases v with
  |c t' x=>
   replace h:sif (ia t t') (some ⟨x::e.xs,e.r,e.fz⟩) none=some e':=by cases t<;>exact h
   refine ⟨?_,fun bx' _=>by cases t<;>exact h⟩
   cases hc:ia t t' with
   |false=>simp[hc,sif] at h
   |true=>
    simp[hc,sif] at h
    subst h;exact e.push _
  |nl=>cases t with
   |sl t=>
    refine ⟨?_,fun bx' _=>h⟩
    replace h:some (⟨.l []::e.xs,e.r,e.fz⟩:Ex)=some e':=h
    simp only[Option.some.injEq] at h
    subst h;exact e.push _
   |_=>exact nope h
  |np=>cases t with
   |pt t=>
    refine ⟨?_,fun bx' _=>h⟩
    replace h:some (⟨.nil::e.xs,e.r,e.fz⟩:Ex)=some e':=h
    simp only[Option.some.injEq] at h
    subst h;exact e.push _
   |_=>exact nope h
  |vw b ver lo hi=>cases t with
   |sl t=>
    replace h:(match cU bx b ver with
     |some (t',es)=>sif (Nat.beq t t') (some (⟨.l ((es.take hi.toNat).drop lo.toNat)::e.xs,e.r,b::e.fz⟩:Ex)) none
     |none=>none)=some e':=h
    have hle:∃x,e'=⟨x::e.xs,e.r,b::e.fz⟩:=by
     split at h
     ·rename_i t' es hl
      cases ht:Nat.beq t t' with
      |false=>simp[ht,sif] at h
      |true=>simp[ht,sif] at h;exact ⟨_,h.symm⟩
     ·simp at h
    obtain ⟨x,rfl⟩:=hle
    refine ⟨e.xD _ _,fun bx' ha=>?_⟩
    show (match cU bx' b ver with
     |some (t',es)=>sif (Nat.beq t t') (some (⟨.l ((es.take hi.toNat).drop lo.toNat)::e.xs,e.r,b::e.fz⟩:Ex)) none
     |none=>none)=_
    rw[jO (ha.fz b (List.mem_cons_self ..))]
    exact h
   |_=>exact nope h
  |pt b ver off=>cases t with
   |pt t=>cases off with
    |succ off=>exact nope h
    |zero=>
     replace h:(match bx b with
      |some (.var v t' cells)=>sif (aA (Nat.beq t t') (Nat.beq v ver)) (match aV T t with
       |some td=>match iV bx td.cts cells with
        |some (cs,f)=>some (⟨.p cs::e.xs,e.r,b::app f e.fz⟩:Ex)
        |none=>none
       |none=>none) none
      |_=>none)=some e':=h
     have key:∃v t' cells td cs f,bx b=some (.var v t' cells)∧aA (Nat.beq t t') (Nat.beq v ver)=true∧aV T t=some td∧iV bx td.cts cells=some (cs,f)∧e'=⟨.p cs::e.xs,e.r,b::app f e.fz⟩:=by
      split at h
      ·rename_i v t' cells hb
       cases hq:aA (Nat.beq t t') (Nat.beq v ver) with
       |false=>rw[hq,aR] at h;simp at h
       |true=>
        rw[hq,af] at h
        split at h
        ·rename_i td htd
         split at h
         ·rename_i cs f hcs
          simp only[Option.some.injEq] at h
          exact ⟨v,t',cells,td,cs,f,hb,hq,htd,hcs,h.symm⟩
         ·simp at h
        ·simp at h
      ·simp at h
     obtain ⟨v,t',cells,td,cs,f,q1,q2,q3,q4,rfl⟩:=key
     refine ⟨e.Gz _ _ _,fun bx' ha=>?_⟩
     have hb':bx' b=some (.var v t' cells):=by rw[ha.fz b (List.mem_cons_self ..)];exact q1
     have hl':iV bx' td.cts cells=some (cs,f):=wH q4 fun c hc=>ha.fz c (List.mem_cons_of_mem _ (by rw[ff];exact List.mem_append_left _ hc))
     show (match bx' b with
      |some (.var v t' cells)=>sif (aA (Nat.beq t t') (Nat.beq v ver)) (match aV T t with
       |some td=>match iV bx' td.cts cells with
        |some (cs,f)=>some (⟨.p cs::e.xs,e.r,b::app f e.fz⟩:Ex)
        |none=>none
       |none=>none) none
      |_=>none)=_
     rw[hb']
     show sif (aA (Nat.beq t t') (Nat.beq v ver)) (match aV T t with
       |some td=>match iV bx' td.cts cells with
        |some (cs,f)=>some (⟨.p cs::e.xs,e.r,b::app f e.fz⟩:Ex)
        |none=>none
       |none=>none) none=_
     rw[q2,af,q3]
     show (match iV bx' td.cts cells with
        |some (cs,f)=>some (⟨.p cs::e.xs,e.r,b::app f e.fz⟩:Ex)
        |none=>none)=_
     rw[hl']
   |_=>cases off<;>exact nope h
  |pe b ver ix off nb=>cases t with
   |pt t=>cases off with
    |succ off=>exact nope h
    |zero=>
     replace h:(match cU bx b ver with
      |some (t',es)=>sif (Nat.beq t t') (some (⟨sif nb (cond (decide (0≤ix)) (.p (es.getD ix.toNat [])) .nil) (.p (es.getD ix.toNat []))::e.xs,e.r,b::e.fz⟩:Ex)) none
      |none=>none)=some e':=h
     have hle:∃x,e'=⟨x::e.xs,e.r,b::e.fz⟩:=by
      split at h
      ·rename_i t' es hl
       cases ht:Nat.beq t t' with
       |false=>rw[ht,aR] at h;simp at h
       |true=>
        rw[ht,af] at h
        simp only[Option.some.injEq] at h
        exact ⟨_,h.symm⟩
      ·simp at h
     obtain ⟨x,rfl⟩:=hle
     refine ⟨e.xD _ _,fun bx' ha=>?_⟩
     show (match cU bx' b ver with
      |some (t',es)=>sif (Nat.beq t t') (some (⟨sif nb (cond (decide (0≤ix)) (.p (es.getD ix.toNat [])) .nil) (.p (es.getD ix.toNat []))::e.xs,e.r,b::e.fz⟩:Ex)) none
      |none=>none)=_
     rw[jO (ha.fz b (List.mem_cons_self ..))]
     exact h
   |_=>cases off<;>exact nope h
  |fa cts cs off=>cases t with
   |pt t=>cases off with
    |succ off=>exact nope h
    |zero=>
     refine ⟨?_,fun bx' _=>h⟩
     replace h:(match aV T t with
      |some d=>sif (nS cts d.cts) (some (⟨.p cs::e.xs,e.r,e.fz⟩:Ex)) none
      |none=>none)=some e':=h
     split at h
     ·rename_i d hd
      cases hq:nS cts d.cts with
      |false=>simp[hq,sif] at h
      |true=>
       rw[hq,af] at h
       simp only[Option.some.injEq] at h
       subst h;exact e.push _
     ·simp at h
   |_=>cases off<;>exact nope h
  |ow b ver=>cases t with
   |sl t=>
    replace h:(match cU bx b ver with
     |some (t',es)=>sif (Nat.beq t t') (some (⟨.l es::e.xs,e.r,b::e.fz⟩:Ex)) none
     |none=>none)=some e':=h
    have hle:∃x,e'=⟨x::e.xs,e.r,b::e.fz⟩:=by
     split at h
     ·rename_i t' es hl
      cases ht:Nat.beq t t' with
      |false=>simp[ht,sif] at h
      |true=>simp[ht,sif] at h;exact ⟨_,h.symm⟩
     ·simp at h
    obtain ⟨x,rfl⟩:=hle
    refine ⟨e.xD _ _,fun bx' ha=>?_⟩
    show (match cU bx' b ver with
     |some (t',es)=>sif (Nat.beq t t') (some (⟨.l es::e.xs,e.r,b::e.fz⟩:Ex)) none
     |none=>none)=_
    rw[jO (ha.fz b (List.mem_cons_self ..))]
    exact h
   |_=>exact nope h
  |_=>cases t<;>exact nope h
 |.ow n,v,e,e',h=>by
  have nope:∀ {P:Prop},(none:Option Ex)=some e'→P:=fun h=>absurd h (by simp)
  cases v with
  |ow b ver=>
   replace h:(match cU bx b ver with
    |some _=>e.put n (some b)
    |none=>none)=some e':=h
   have h2:e.put n (some b)=some e':=by
    split at h
    ·exact h
    ·simp at h
   obtain ⟨p1,p2,p3,p4⟩:=me h2
   refine ⟨p1,fun bx' ha=>?_⟩
   show (match cU bx' b ver with
    |some _=>e.put n (some b)
    |none=>none)=some e'
   rw[jO (ha.r n b p2)]
   exact h
  |nl=>
   replace h:e.put n none=some e':=h
   exact ⟨(me h).1,fun bx' _=>h⟩
  |_=>exact nope h
 |.mp n,v,e,e',h=>by
  have nope:∀ {P:Prop},(none:Option Ex)=some e'→P:=fun h=>absurd h (by simp)
  cases v with
  |mp b ver=>
   replace h:(match bx b with
    |some (.mp v _ _)=>sif (Nat.beq v ver) (e.put n (some b)) none
    |_=>none)=some e':=h
   have h2:e.put n (some b)=some e':=by
    split at h
    ·rename_i v' t' es' _
     cases hc:Nat.beq v' ver with
     |false=>simp[hc,sif] at h
     |true=>rw[hc,af] at h;exact h
    ·simp at h
   obtain ⟨p1,p2,p3,p4⟩:=me h2
   refine ⟨p1,fun bx' ha=>?_⟩
   show (match bx' b with
    |some (.mp v _ _)=>sif (Nat.beq v ver) (e.put n (some b)) none
    |_=>none)=some e'
   rw[ha.r n b p2]
   exact h
  |_=>exact nope h
 |.pt n o,v,e,e',h=>by
  have nope:∀ {P:Prop},(none:Option Ex)=some e'→P:=fun h=>absurd h (by simp)
  cases v with
  |pt b ver o'=>
   replace h:(match bx b with
    |some (.var v _ _)=>sif (aA (Nat.beq o o') (Nat.beq v ver)) (e.put n (some b)) none
    |_=>none)=some e':=h
   have h2:e.put n (some b)=some e':=by
    split at h
    ·rename_i v' t' cells' _
     cases hc:aA (Nat.beq o o') (Nat.beq v' ver) with
     |false=>simp[hc,sif] at h
     |true=>rw[hc,af] at h;exact h
    ·simp at h
   obtain ⟨p1,p2,p3,p4⟩:=me h2
   refine ⟨p1,fun bx' ha=>?_⟩
   show (match bx' b with
    |some (.var v _ _)=>sif (aA (Nat.beq o o') (Nat.beq v ver)) (e.put n (some b)) none
    |_=>none)=some e'
   rw[ha.r n b p2]
   exact h
  |_=>exact nope h
 |.pe n o,v,e,e',h=>by
  have nope:∀ {P:Prop},(none:Option Ex)=some e'→P:=fun h=>absurd h (by simp)
  cases v with
  |pe b ver ix o' nb=>
   replace h:(match cU bx b ver with
    |some _=>sif (Nat.beq o o') (Ex.put ⟨.i ix::e.xs,e.r,e.fz⟩ n (some b)) none
    |none=>none)=some e':=h
   have h2:Ex.put ⟨.i ix::e.xs,e.r,e.fz⟩ n (some b)=some e':=by
    split at h
    ·cases hc:Nat.beq o o' with
     |false=>simp[hc,sif] at h
     |true=>rw[hc,af] at h;exact h
    ·simp at h
   obtain ⟨p1,p2,p3,p4⟩:=me h2
   refine ⟨(e.push _).le_trans p1,fun bx' ha=>?_⟩
   show (match cU bx' b ver with
    |some _=>sif (Nat.beq o o') (Ex.put ⟨.i ix::e.xs,e.r,e.fz⟩ n (some b)) none
    |none=>none)=some e'
   rw[jO (ha.r n b p2)]
   exact h
  |np=>
   replace h:(match e.r.find n with
    |some (some b)=>match bx b with
     |some (.arr _ _ _ _)=>some (⟨.i (-1)::e.xs,e.r,e.fz⟩:Ex)
     |_=>none
    |_=>none)=some e':=h
   cases hfd:e.r.find n with
   |none=>simp[hfd] at h
   |some ob=>cases ob with
    |none=>simp[hfd] at h
    |some b=>
     rw[hfd] at h
     have h2:some (⟨.i (-1)::e.xs,e.r,e.fz⟩:Ex)=some e':=by
      replace h:(match bx b with
       |some (.arr _ _ _ _)=>some (⟨.i (-1)::e.xs,e.r,e.fz⟩:Ex)
       |_=>none)=some e':=h
      split at h
      ·exact h
      ·simp at h
     have h3:=Option.some.inj h2
     subst h3
     refine ⟨e.push _,fun bx' ha=>?_⟩
     show (match e.r.find n with
      |some (some b)=>match bx' b with
       |some (.arr _ _ _ _)=>some (⟨.i (-1)::e.xs,e.r,e.fz⟩:Ex)
       |_=>none
      |_=>none)=some _
     rw[hfd]
     show (match bx' b with
       |some (.arr _ _ _ _)=>some (⟨.i (-1)::e.xs,e.r,e.fz⟩:Ex)
       |_=>none)=some _
     rw[ha.r n b hfd]
     exact h
  |_=>exact nope h
 |.st ts,v,e,e',h=>by
  cases v with
  |ag vs o=>
   cases o with
   |some x=>
    replace h:sif (jr ts vs) (some (⟨x::e.xs,e.r,e.fz⟩:Ex)) none=some e':=h
    cases hc:jr ts vs with
    |false=>simp[hc,sif] at h
    |true=>
     have h':=h
     rw[hc,af] at h
     simp only[Option.some.injEq] at h
     subst h
     exact ⟨e.push _,fun bx' ha=>h'⟩
   |none=>
    replace h:(match iV bx ts vs with
     |some (cs,f)=>some (⟨.p cs::e.xs,e.r,app f e.fz⟩:Ex)
     |none=>none)=some e':=h
    split at h
    ·rename_i cs f hcs
     simp only[Option.some.injEq] at h
     subst h
     refine ⟨e.Ec _ _,fun bx' ha=>?_⟩
     have hl':iV bx' ts vs=some (cs,f):=wH hcs fun c hc=>ha.fz c (by rw[ff];exact List.mem_append_left _ hc)
     show (match iV bx' ts vs with
      |some (cs,f)=>some (⟨.p cs::e.xs,e.r,app f e.fz⟩:Ex)
      |none=>none)=_
     rw[hl']
    ·simp at h
  |_=>exact absurd (show (none:Option Ex)=some e' from h) (by simp)
 |.ag q,v,e,e',h=>by
  cases v with
  |ag vs _=>exact oD q vs e e' h
  |_=>exact absurd (show (none:Option Ex)=some e' from h) (by simp)
 |.tu q,v,e,e',h=>by
  cases v with
  |tu vs=>exact oD q vs e e' h
  |_=>exact absurd (show (none:Option Ex)=some e' from h) (by simp)
 |.fn f q,v,e,e',h=>by
  cases v with
  |fn f' vs=>
   replace h:sif (Nat.beq f f') (Sk.exts T bx q vs e) none=some e':=h
   cases hc:Nat.beq f f' with
   |false=>simp[hc,sif] at h
   |true=>
    rw[hc,af] at h
    obtain ⟨h1,h2⟩:=oD q vs e e' h
    refine ⟨h1,fun bx' ha=>?_⟩
    show sif (Nat.beq f f') (Sk.exts T bx' q vs e) none=some e'
    rw[hc,af]
    exact h2 bx' ha
  |_=>exact absurd (show (none:Option Ex)=some e' from h) (by simp)
theorem oD:∀(ks:List Sk) (vs:List V) (e e':Ex),Sk.exts T bx ks vs e=some e'→e.le e'∧∀bx':Bxs,Ag bx bx' e'→Sk.exts T bx' ks vs e=some e'
 |[],[],e,e',h=>by
  refine ⟨?_,fun bx' _=>h⟩
  replace h:some e=some e':=h
  simp only[Option.some.injEq] at h
  subst h
  exact Ex.le_refl _
 |[],_::_,e,e',h=>absurd (show (none:Option Ex)=some e' from h) (by simp)
 |_::_,[],e,e',h=>absurd (show (none:Option Ex)=some e' from h) (by simp)
 |k::ks,v::vs,e,e',h=>by
  replace h:(match k.ext T bx v e with
   |some e1=>Sk.exts T bx ks vs e1
   |none=>none)=some e':=h
  split at h
  ·rename_i e1 h1
   obtain ⟨a1,a2⟩:=BS k v e e1 h1
   obtain ⟨b1,b2⟩:=oD ks vs e1 e' h
   refine ⟨a1.le_trans b1,fun bx' ha=>?_⟩
   show (match k.ext T bx' v e with
    |some e1=>Sk.exts T bx' ks vs e1
    |none=>none)=some e'
   rw[a2 bx' (ha.le b1)]
   exact b2 bx' ha
  ·simp at h
end
theorem xV {ρ:ca}:∀(q:List (Nat×Sk)) (e e':Ex),ph T ⟨ρ,bx⟩ q e=some e'→e.le e'∧∀bx':Bxs,Ag bx bx' e'→ph T ⟨ρ,bx'⟩ q e=some e'
 |[],e,e',h=>by
  refine ⟨?_,fun bx' _=>h⟩
  replace h:some e=some e':=h
  simp only[Option.some.injEq] at h
  subst h
  exact Ex.le_refl _
 |(d,k)::r,e,e',h=>by
  replace h:(match k.ext T bx (ρ d) e with
   |some e1=>ph T ⟨ρ,bx⟩ r e1
   |none=>none)=some e':=h
  split at h
  ·rename_i e1 h1
   obtain ⟨a1,a2⟩:=BS k _ e e1 h1
   obtain ⟨b1,b2⟩:=xV r e1 e' h
   refine ⟨a1.le_trans b1,fun bx' ha=>?_⟩
   show (match k.ext T bx' (ρ d) e with
    |some e1=>ph T ⟨ρ,bx'⟩ r e1
    |none=>none)=some e'
   rw[a2 bx' (ha.le b1)]
   exact b2 bx' ha
  ·simp at h
theorem my:∀(q:List (Nat×BSk)) (e e':Ex),gh T bx q e=some e'→e.le e'∧∀bx':Bxs,Ag bx bx' e'→gh T bx' q e=some e'
 |[],e,e',h=>by
  refine ⟨?_,fun bx' _=>h⟩
  replace h:some e=some e':=h
  simp only[Option.some.injEq] at h
  subst h
  exact Ex.le_refl _
 |(n,.var t cells)::r,e,e',h=>by
  replace h:(match e.r.find n with
   |some (some b)=>match bx b with
    |some (.var _ t' vs)=>match sif (Nat.beq t t') (Sk.exts T bx cells vs e) none with
     |some e'=>gh T bx r e'
     |none=>none
    |_=>none
   |_=>none)=some e':=h
  split at h
  ·rename_i b hb
   split at h
   ·rename_i v t' vs hbb
    split at h
    ·rename_i e1 h1
     cases hc:Nat.beq t t' with
     |false=>simp[hc,sif] at h1
     |true=>
      rw[hc,af] at h1
      obtain ⟨a1,a2⟩:=oD cells vs e e1 h1
      obtain ⟨b1,b2⟩:=my r e1 e' h
      refine ⟨a1.le_trans b1,fun bx' ha=>?_⟩
      show (match e.r.find n with
       |some (some b)=>match bx' b with
        |some (.var _ t' vs)=>match sif (Nat.beq t t') (Sk.exts T bx' cells vs e) none with
         |some e'=>gh T bx' r e'
         |none=>none
        |_=>none
       |_=>none)=some e'
      have hbe:bx' b=bx b:=ha.r n b ((a1.le_trans b1).r _ _ hb)
      simp only[hb,hbe,hbb,hc,af]
      rw[a2 bx' (ha.le b1)]
      exact b2 bx' ha
    ·simp at h
   ·simp at h
  ·simp at h
 |(n,.arr t m)::r,e,e',h=>by
  replace h:(match e.r.find n with
   |some (some b)=>match bx b with
    |some (.arr _ t' es m')=>sif (aA (Nat.beq t t') (mok m m')) (gh T bx r ⟨.l es::e.xs,e.r,e.fz⟩) none
    |_=>none
   |some none=>gh T bx r ⟨.l []::e.xs,e.r,e.fz⟩
   |none=>none)=some e':=h
  split at h
  ·rename_i b hb
   split at h
   ·rename_i v t' es m' hbb
    cases hc:aA (Nat.beq t t') (mok m m') with
    |false=>simp[hc,sif] at h
    |true=>
     rw[hc,af] at h
     obtain ⟨b1,b2⟩:=my r _ e' h
     refine ⟨(e.push _).le_trans b1,fun bx' ha=>?_⟩
     show (match e.r.find n with
      |some (some b)=>match bx' b with
       |some (.arr _ t' es m')=>sif (aA (Nat.beq t t') (mok m m')) (gh T bx' r ⟨.l es::e.xs,e.r,e.fz⟩) none
       |_=>none
      |some none=>gh T bx' r ⟨.l []::e.xs,e.r,e.fz⟩
      |none=>none)=some e'
     have hbe:bx' b=bx b:=ha.r n b (((e.push _).le_trans b1).r _ _ hb)
     simp only[hb,hbe,hbb,hc,af]
     exact b2 bx' ha
   ·simp at h
  ·rename_i hb
   obtain ⟨b1,b2⟩:=my r _ e' h
   refine ⟨(e.push _).le_trans b1,fun bx' ha=>?_⟩
   show (match e.r.find n with
    |some (some b)=>match bx' b with
     |some (.arr _ t' es m')=>sif (aA (Nat.beq t t') (mok m m')) (gh T bx' r ⟨.l es::e.xs,e.r,e.fz⟩) none
     |_=>none
    |some none=>gh T bx' r ⟨.l []::e.xs,e.r,e.fz⟩
    |none=>none)=some e'
   simp only[hb]
   exact b2 bx' ha
  ·simp at h
 |(n,.mp t)::r,e,e',h=>by
  replace h:(match e.r.find n with
   |some (some b)=>match bx b with
    |some (.mp _ t' es)=>sif (Nat.beq t t') (gh T bx r ⟨.l es::e.xs,e.r,e.fz⟩) none
    |_=>none
   |_=>none)=some e':=h
  split at h
  ·rename_i b hb
   split at h
   ·rename_i v t' es hbb
    cases hc:Nat.beq t t' with
    |false=>simp[hc,sif] at h
    |true=>
     rw[hc,af] at h
     obtain ⟨b1,b2⟩:=my r _ e' h
     refine ⟨(e.push _).le_trans b1,fun bx' ha=>?_⟩
     show (match e.r.find n with
      |some (some b)=>match bx' b with
       |some (.mp _ t' es)=>sif (Nat.beq t t') (gh T bx' r ⟨.l es::e.xs,e.r,e.fz⟩) none
       |_=>none
      |_=>none)=some e'
     have hbe:bx' b=bx b:=ha.r n b (((e.push _).le_trans b1).r _ _ hb)
     simp only[hb,hbe,hbb,hc,af]
     exact b2 bx' ha
   ·simp at h
  ·simp at h
theorem Bb {T:Tys} {t:Tm} {r0:Ren} {ρ:ca} {e:Ex} (h:t.ext T r0 ⟨ρ,bx⟩=some e) {bx':Bxs} (ha:∀b,b∈names e.r∨b∈e.fz→bx' b=bx b):t.ext T r0 ⟨ρ,bx'⟩=some e:=by
 unfold Tm.ext at h⊢
 split at h
 ·rename_i e1 h1
  split at h
  ·rename_i e2 h2
   have hee:e2=e:=by
    cases hc:aA (aA (bxT T t.bx) (aA (nG t.bx t.sl) (gS t.bx t.bx))) (aA (bD (names e2.r)) (AQ e2.r e2.fz)) with
    |false=>simp[hc,sif] at h
    |true=>rw[hc,af] at h;exact Option.some.inj h
   subst hee
   have hag:Ag bx bx' e2:=⟨fun n b hf=>ha b (.inl (j7 hf)),fun b hb=>ha b (.inr hb)⟩
   have a:=(xV t.sl _ e1 h1)
   have b:=(my t.bx e1 e2 h2)
   rw[a.2 bx' (hag.le b.1)]
   replace h2:gh T bx' t.bx e1=some e2:=b.2 bx' hag
   simp only
   rw[h2]
   exact h
  ·simp at h
 ·simp at h
theorem vg {out:List (Nat×BSk)}:∀ {r:Ren},(∀b,b∈names r→bx' b=bx b)→lF bx' out r=lF bx out r
 |[],_=>rfl
 |(n,none)::r,h=>vg (r:=r) h
 |(n,some b)::r,h=>by
  have h1:=vg (out:=out) (r:=r) (fun c hc=>h c (List.mem_cons_of_mem _ hc))
  have h2:=h b (List.mem_cons_self ..)
  show sif (bC out n) _ _=sif (bC out n) _ _
  rw[h1,h2]
theorem F8 {ip:List Nat} {r:Ren} {out:List (Nat×BSk)} {d:Nat} (h:∀b,b∈names r→bx' b=bx b) (h2:∀n,bC out n=true→(∀b,r.find n≠some (some b))→bx' (mC d n)=bx (mC d n)):
  nB ip r out bx' d=nB ip r out bx d:=by
 funext n
 unfold nB
 cases ho:bC out n with
 |false=>rfl
 |true=>
  rw[af,af]
  rcases hr:r.find n with _|_|b
  ·simp only[h2 n ho (fun b hb=>by rw[hr] at hb;simp at hb)]
  ·simp only[h2 n ho (fun b hb=>by rw[hr] at hb;simp at hb)]
  ·simp only[h b (j7 hr)]
theorem D4 {r:Ren} (h:∀b,b∈names r→bx' b=bx b):∀q:List Nat,ipM bx' r q=ipM bx r q
 |[]=>rfl
 |n::q=>by
  have h1:=D4 h q
  show aA (match r.find n with|some (some b)=>(match bx' b with|some x=>dA (Nat.beq x.m 4)|none=>true)|_=>true) (ipM bx' r q)=_
  rw[h1]
  rcases hr:r.find n with _|_|b
  ·simp only[ipM,hr]
  ·simp only[ipM,hr]
  ·simp only[ipM,hr,h b (j7 hr)]
   cases bx b<;>rfl
theorem CU (T:Tys) (tr:Nat→Bool) (fs:FS) (d:Nat) (vs:List V):Loc (xt T tr fs d vs):=by
 intro bx k r h
 unfold xt at h
 split at h
 ·simp at h
 rename_i e he
 cases hb:Nat.beq (len vs) fs.n with
 |false=>simp[hb,sif] at he
 |true=>
 rw[hb,af] at he
 cases hc:aA (orS (aA (isNil e.fz) (j8 tr fs.outT.bx)) (orS fs.outT.flat (aA fs.outT.pure (orS (j8 tr fs.outT.bx) (aA (isNil fs.ip) (j8 Bj fs.inT.bx)))))) (aA (xl fs.inT.bx fs.ip fs.outT.bx) (aA (lE fs.inT.bx fs.ip) (ipM bx e.r fs.ip))) with
 |false=>simp[hc,sif] at h
 |true=>
 rw[hc,af] at h
 unfold gB at h
 split at h
 ·rename_i ys hys
  replace h:sif (bD (bN (di tr fs d e.r bx ys))) (k ⟨rA fs d e.r bx ys,di tr fs d e.r bx ys⟩ (app (names e.r) (app e.fz (bN (di tr fs d e.r bx ys))))) none=some r:=h
  cases hnd:bD (bN (di tr fs d e.r bx ys)) with
  |false=>simp[hnd,sif] at h
  |true=>
  rw[hnd,af] at h
  refine ⟨_,_,h,fun bx' ha k'=>?_⟩
  rw[ff,ff] at ha
  have hnames:∀b,b∈names e.r→bx' b=bx b:=fun b hb=>ha b (List.mem_append_left _ hb)
  have hext:=Bb he (bx':=bx') (fun b hb=>hb.elim (hnames b) fun hb=>ha b (List.mem_append_right _ (List.mem_append_left _ hb)))
  have hnm:nB fs.ip e.r fs.outT.bx bx' d=nB fs.ip e.r fs.outT.bx bx d:=F8 hnames fun n ho hf=>by
   refine ha _ (List.mem_append_right _ (List.mem_append_right _ ?_))
   unfold di
   rw[ff,ru]
   refine List.mem_append_left _ ?_
   have:=pR (tr:=tr) (nm:=nB fs.ip e.r fs.outT.bx bx d) (xs:=ys) (p:=(cg (nB fs.ip e.r fs.outT.bx bx d) ys fs.outT.sl 0 fun _=>.un).2) ho
   rw[(xr ho hf).1] at this
   exact this
  have hups:di tr fs d e.r bx' ys=di tr fs d e.r bx ys:=by unfold di;rw[hnm,vg hnames]
  have hov:rA fs d e.r bx' ys=rA fs d e.r bx ys:=by unfold rA;rw[hnm]
  unfold xt
  rw[hb,af,hext]
  simp only
  rw[D4 hnames,hc,af,hys]
  show sif (bD (bN (di tr fs d e.r bx' ys))) _ _=_
  rw[hups,hov,hnd,af]
 ·simp at h
theorem Cv (T:Tys) (tr:Nat→Bool) (fs:FS) (d:Nat) (vs:List V):Loc (vV T tr fs d vs):=by
 unfold vV
 split
 ·unfold yR
  refine Loc.bind (Loc.bK _) fun y=>?_
  split
  ·refine Loc.bind (Loc.aW _) fun _=>Loc.bind (Loc.aW _) fun _=>Loc.bind (Loc.opt _) fun _=>Loc.bind (Loc.opt _) fun x=>fun bx k r h=>?_
   replace h:gB (fs.F (rev (_::x.xs) [])) _=some r:=h
   unfold gB at h
   split at h
   ·rename_i ys hys
    refine ⟨_,[],h,fun bx' _ k'=>?_⟩
    show gB (fs.F (rev (_::x.xs) [])) _=_
    rw[hys];rfl
   ·simp at h
  ·exact Loc.fail
 ·exact CU _ _ _ _ _
end
end Go.Ev
