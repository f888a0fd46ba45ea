/- Proved here: the law FnExactPilotVictimsCard of the given program answers true at every input, and leaves the input as it was; no condition. This text: lemmas on the way (an evaluator of the program's code, sound once for all; the functions it prints; plain proofs on these). -/
import Derived.Test.YtkbmnjmgceabdaaGreatDoorP3
set_option linter.all false
set_option autoImplicit false
set_option maxRecDepth 8000
namespace Go.Ev
def Tr.Wf:Tr→Prop
 |.lf k n v=>nameOk (mkS n)=true∧((k=1∧v=[])∨(k=2∧nameOk (mkS v)=true))
 |.un t=>t.Wf
 |.bn k a b=>(k=4∨k=5)∧a.Wf∧b.Wf
def Tr.sz:Tr→Nat
 |.lf _ _ _=>1
 |.un t=>t.sz+1
 |.bn _ a b=>a.sz+b.sz+1
def Tr.depth:Tr→Nat
 |.lf _ _ _=>0
 |.un t=>t.depth+1
 |.bn _ a b=>max a.depth b.depth+1
theorem Tr.sz_pos:∀t:Tr,0<t.sz
 |.lf _ _ _=>by simp[Tr.sz]
 |.un t=>by simp[Tr.sz]
 |.bn _ a b=>by simp[Tr.sz]
theorem Tr.depth_lt:∀t:Tr,t.depth<t.sz
 |.lf _ _ _=>by simp[Tr.sz,Tr.depth]
 |.un t=>by have:=t.depth_lt;simp[Tr.sz,Tr.depth];exact this
 |.bn _ a b=>by have:=a.depth_lt;have:=b.depth_lt;simp only[Tr.sz,Tr.depth];omega
theorem Tr.flat_len:∀t:Tr,t.flat.length=t.sz
 |.lf _ _ _=>rfl
 |.un t=>by simp[Tr.flat,Tr.sz,t.flat_len]
 |.bn _ a b=>by simp[Tr.flat,Tr.sz,a.flat_len,b.flat_len];omega
def okTok (x:Tok):Prop:=nameOk (mkS x)=true∨x=[33]∨x=[40]∨x=[41]∨x=[61]∨x=[124]∨x=[38]
def Pre (l:List Tok) (t:Tr) (r:List Tok):Prop:=∃p,l=p++r∧(∀x,x∈p→okTok x)∧t.sz≤p.length∧t.Wf
theorem opL_wf (f:List Tok→Option (Tr×List Tok)) (op:Tok) (kd:Nat) (hop:okTok op) (hk:kd=4∨kd=5) (hf:∀l t r,f l=some (t,r)→Pre l t r):∀(m:Nat) (t:Tr) (l:List Tok) (u:Tr) (r l0:List Tok),
  Pre l0 t l→opL f op kd m t l=some (u,r)→Pre l0 u r
 |0,t,l,u,r,l0,h0,h=>by
  simp only[opL,Option.some.injEq,Prod.mk.injEq] at h
  obtain ⟨rfl,rfl⟩:=h;exact h0
 |m+1,t,[],u,r,l0,h0,h=>by
  simp only[opL,Option.some.injEq,Prod.mk.injEq] at h
  obtain ⟨rfl,rfl⟩:=h;exact h0
 |m+1,t,x::l,u,r,l0,h0,h=>by
  simp only[opL] at h
  split at h
  ·rename_i hx
   split at h
   ·simp at h
   ·rename_i t' r'' hq
    refine opL_wf f op kd hop hk hf m _ _ u r l0 ?_ h
    obtain ⟨p,rfl,q2,q3,q4⟩:=h0
    obtain ⟨p',rfl,q2',q3',q4'⟩:=hf _ _ _ hq
    refine ⟨p++x::p',by simp,fun y hy=>?_,by simp[Tr.sz];omega,hk,q4,q4'⟩
    rcases List.mem_append.1 hy with hy|hy
    ·exact q2 y hy
    ·rcases List.mem_cons.1 hy with rfl|hy
     ·rw[hx];exact hop
     ·exact q2' y hy
  ·simp only[Option.some.injEq,Prod.mk.injEq] at h
   obtain ⟨rfl,rfl⟩:=h;exact h0
theorem prs_wf:∀(j c:Nat) (l:List Tok) (t:Tr) (r:List Tok),prs j c l=some (t,r)→Pre l t r
 |0,c,l,t,r,h=>by simp[prs] at h
 |j+1,0,l,t,r,h=>by
  simp only[prs] at h
  split at h
  ·simp at h
  ·rename_i t' r' hq
   exact opL_wf (prs j 1) [124] 5 (by simp[okTok]) (.inr rfl) (fun l t r=>prs_wf j 1 l t r) _ _ _ _ _ l (prs_wf j 1 _ _ _ hq) h
 |j+1,1,l,t,r,h=>by
  simp only[prs] at h
  split at h
  ·simp at h
  ·rename_i t' r' hq
   exact opL_wf (prs j 2) [38] 4 (by simp[okTok]) (.inl rfl) (fun l t r=>prs_wf j 2 l t r) _ _ _ _ _ l (prs_wf j 2 _ _ _ hq) h
 |j+1,c+2,[],t,r,h=>by simp[prs] at h
 |j+1,c+2,x::l,t,r,h=>by
  simp only[prs] at h
  split at h
  ·rename_i hx
   split at h
   ·simp at h
   ·rename_i t' r' hq
    simp only[Option.some.injEq,Prod.mk.injEq] at h
    obtain ⟨rfl,rfl⟩:=h
    obtain ⟨p,rfl,q2,q3,q4⟩:=prs_wf j 2 _ _ _ hq
    refine ⟨x::p,rfl,fun y hy=>?_,by simp[Tr.sz];omega,q4⟩
    rcases List.mem_cons.1 hy with rfl|hy
    ·rw[hx];simp[okTok]
    ·exact q2 y hy
  ·split at h
   ·rename_i hx
    split at h
    ·rename_i t' y r' hq
     split at h
     ·rename_i hy41
      simp only[Option.some.injEq,Prod.mk.injEq] at h
      obtain ⟨rfl,rfl⟩:=h
      obtain ⟨p,hp,q2,q3,q4⟩:=prs_wf j 0 _ _ _ hq
      refine ⟨x::(p++[y]),by rw[hp];simp,fun z hz=>?_,by simp;omega,q4⟩
      rcases List.mem_cons.1 hz with rfl|hz
      ·rw[hx];simp[okTok]
      ·rcases List.mem_append.1 hz with hz|hz
       ·exact q2 z hz
       ·simp at hz;subst hz;rw[hy41];simp[okTok]
     ·simp at h
    ·simp at h
   ·split at h
    ·rename_i hn
     split at h
     ·rename_i y r'
      split at h
      ·rename_i hy61
       split at h
       ·rename_i v r''
        split at h
        ·rename_i hv
         simp only[Option.some.injEq,Prod.mk.injEq] at h
         obtain ⟨rfl,rfl⟩:=h
         refine ⟨[x,y,v],rfl,fun z hz=>?_,by simp[Tr.sz],hn,.inr ⟨rfl,hv⟩⟩
         simp at hz
         rcases hz with rfl|rfl|rfl
         ·exact .inl hn
         ·rw[hy61];simp[okTok]
         ·exact .inl hv
        ·simp at h
       ·simp at h
      ·simp only[Option.some.injEq,Prod.mk.injEq] at h
       obtain ⟨rfl,rfl⟩:=h
       refine ⟨[x],rfl,fun z hz=>?_,by simp[Tr.sz],hn,.inl ⟨rfl,rfl⟩⟩
       simp at hz;subst hz;exact .inl hn
     ·simp only[Option.some.injEq,Prod.mk.injEq] at h
      obtain ⟨rfl,rfl⟩:=h
      refine ⟨[x],rfl,fun z hz=>?_,by simp[Tr.sz],hn,.inl ⟨rfl,rfl⟩⟩
      simp at hz;subst hz;exact .inl hn
    ·simp at h
theorem legal_run:∀r:List UInt8,r.all legal=(r.dropWhile lett).all legal
 |[]=>rfl
 |x::r=>by
  rw[List.dropWhile_cons]
  cases hx:lett x with
  |true=>simp only[if_true,List.all_cons];rw[legal_run r];simp[legal,hx]
  |false=>simp
theorem lex_legal:∀(n:Nat) (l:List UInt8),l.length≤n→(∀x,x∈lexT l→okTok x)→l.all legal=true
 |n,[],hn,h=>rfl
 |0,c::r,hn,h=>by simp at hn
 |n+1,c::r,hn,h=>by
  simp only[List.length_cons] at hn
  rw[lexT.eq_2] at h
  split at h
  ·rename_i h32
   subst h32
   have:=lex_legal n r (by omega) h
   simp[legal] at this⊢
   exact this
  ·rename_i h32
   split at h
   ·rename_i hc
    have hdl:=(List.dropWhile_suffix (l:=r) lett).length_le
    have:=lex_legal n (r.dropWhile lett) (by omega) fun x hx=>h x (by simp[hx])
    rw[List.all_cons,legal_run r,this]
    simp[legal,hc]
   ·rename_i hc
    have h1:=h [c] (by simp)
    have:=lex_legal n r (by omega) fun x hx=>h x (by simp[hx])
    rw[List.all_cons,this]
    have hn1:nameOk (mkS [c])=false:=by simp[nameOk,mkS_data,hc]
    rcases h1 with h1|h1|h1|h1|h1|h1|h1
    ·rw[hn1] at h1;simp at h1
    all_goals (simp at h1;subst h1;rfl)
theorem lex_len:∀(n:Nat) (l:List UInt8),l.length≤n→(lexT l).length≤l.length∧∀x,x∈lexT l→x.length≤l.length
 |n,[],hn=>by simp[lexT]
 |0,c::r,hn=>by simp at hn
 |n+1,c::r,hn=>by
  simp only[List.length_cons] at hn⊢
  rw[lexT.eq_2]
  split
  ·obtain ⟨h1,h2⟩:=lex_len n r (by omega)
   exact ⟨by omega,fun x hx=>by have:=h2 x hx;omega⟩
  ·split
   ·have hdl:=(List.dropWhile_suffix (l:=r) lett).length_le
    have htl:=run_len lett r
    obtain ⟨h1,h2⟩:=lex_len n (r.dropWhile lett) (by omega)
    refine ⟨by simp;omega,fun x hx=>?_⟩
    rcases List.mem_cons.1 hx with rfl|hx
    ·simp;omega
    ·have:=h2 x hx;omega
   ·obtain ⟨h1,h2⟩:=lex_len n r (by omega)
    refine ⟨by simp;omega,fun x hx=>?_⟩
    rcases List.mem_cons.1 hx with rfl|hx
    ·simp
    ·have:=h2 x hx;omega
end Go.Ev
namespace Go.Ev
theorem w64n {n:Nat} (h:n<big):w64 ((n:Int)+1)=((n+1:Nat):Int):=by
 simp only[big] at h;rw[w64_of (by omega) (by omega)];rfl
theorem i_depth:∀(k:Nat) (t:Tr),t.depth<k→t.depth<big→i_pSel_depth.g k 0 [t.enc]=some [.i (t.depth:Nat)]
 |0,t,h,_=>by omega
 |k+1,t,h,hb=>by
  have hs:∀x,i_pSel_depth.g (k+1) 0 x=i_pSel_depth.step (i_pSel_depth.g k 0) x:=fun _=>rfl
  rw[hs]
  have w0:w64 1=1:=w64_of (by omega) (by omega)
  have w2:w64 2=2:=w64_of (by omega) (by omega)
  cases t with
  |lf kd n v=>
   have h0:ap4 (i_pSel_depth.d1 (i_pSel_depth.g k 0)) [.i 0,.l [],.i 0,.i 0]=some (.brk 0 [.i 0]):=by simp[i_pSel_depth.d1]
   simp only[i_pSel_depth.step,i_pSel_depth.d3,apL,jC,jD,Tr.enc,C.isP_p,jR,C.P_p,C.L_l,List.length_nil,Int.ofNat_zero,Int.natCast_zero]
   rw[lim_brk h0]
   simp[i_pSel_depth.d2,Tr.depth]
  |un t=>
   simp only[Tr.depth] at h hb
   have ih:=i_depth k t (by omega) (by omega)
   have h0:ap4 (i_pSel_depth.d1 (i_pSel_depth.g k 0)) [.i 0,.l [[t.enc]],.i 1,.i 0]=some (.again [.i (t.depth+1:Nat),.l [[t.enc]],.i 1,.i 1]):=by
    have hgt:(((t.depth+1:Nat):Int))>0:=by omega
    simp[i_pSel_depth.d1,ih,call1,w64n (show t.depth<big by omega),w0]
   have h1:ap4 (i_pSel_depth.d1 (i_pSel_depth.g k 0)) [.i (t.depth+1:Nat),.l [[t.enc]],.i 1,.i 1]=some (.brk 0 [.i (t.depth+1:Nat)]):=by simp[i_pSel_depth.d1]
   simp only[i_pSel_depth.step,i_pSel_depth.d3,apL,jC,jD,Tr.enc,C.isP_p,jR,C.P_p,C.L_l,List.length_cons,List.length_nil]
   erw[lim_again h0,lim_brk h1]
   simp[i_pSel_depth.d2,Tr.depth]
  |bn kd a b=>
   simp only[Tr.depth] at h hb
   have iha:=i_depth k a (by omega) (by omega)
   have ihb:=i_depth k b (by omega) (by omega)
   have h0:ap4 (i_pSel_depth.d1 (i_pSel_depth.g k 0)) [.i 0,.l [[a.enc],[b.enc]],.i 2,.i 0]=some (.again [.i (a.depth+1:Nat),.l [[a.enc],[b.enc]],.i 2,.i 1]):=by
    simp[i_pSel_depth.d1,iha,call1,w64n (show a.depth<big by omega),w0]
   have h1:ap4 (i_pSel_depth.d1 (i_pSel_depth.g k 0)) [.i (a.depth+1:Nat),.l [[a.enc],[b.enc]],.i 2,.i 1]=some (.again [.i (max a.depth b.depth+1:Nat),.l [[a.enc],[b.enc]],.i 2,.i 2]):=by
    have e:(1:Int)<2:=by omega
    simp only[apL,jC,jD,i_pSel_depth.d1,C.I_i,C.L_l,e,decide_true,jR,List.length_cons,List.length_nil,Int.toNat_one,ihb,call1,jI,w64n (show b.depth<big by omega)]
    have w2':w64 (1+1)=2:=w2
    rw[w2']
    simp
    split<;>omega
   have h2:ap4 (i_pSel_depth.d1 (i_pSel_depth.g k 0)) [.i (max a.depth b.depth+1:Nat),.l [[a.enc],[b.enc]],.i 2,.i 2]=some (.brk 0 [.i (max a.depth b.depth+1:Nat)]):=by simp[i_pSel_depth.d1]
   simp only[i_pSel_depth.step,i_pSel_depth.d3,apL,jC,jD,Tr.enc,C.isP_p,jR,C.P_p,C.L_l,List.length_cons,List.length_nil]
   erw[lim_again h0,lim_again h1,lim_brk h2]
   simp[i_pSel_depth.d2,Tr.depth]
def Tr.kids:Tr→Nat→List (List C)
 |.lf _ _ _,o=>[[.l []]]
 |.un t,o=>t.kids o++[[.l [[.i (o+t.sz-1:Nat)]]]]
 |.bn _ a b,o=>a.kids o++b.kids (o+a.sz)++[[.l [[.i (o+a.sz-1:Nat)],[.i (o+a.sz+b.sz-1:Nat)]]]]
theorem Tr.kids_len:∀(t:Tr) (o:Nat),(t.kids o).length=t.sz
 |.lf _ _ _,o=>rfl
 |.un t,o=>by simp[Tr.kids,Tr.sz,t.kids_len]
 |.bn _ a b,o=>by simp[Tr.kids,Tr.sz,a.kids_len,b.kids_len];omega
theorem kid_step {N:List (List C)} {o m:Nat} {kd:Nat} {n v:Tok} {out stk:List (List C)} (hN:N.length≤1048576) (ho:o<N.length) (hn:N[o]=node kd n v m) (h1:m≤stk.length) (h2:stk.length≤o) (h3:out.length≤o):
  ap4 s_l1Kids.d1 [.i o,.l N,.l out,.l stk]=some (.again [.i (o+1:Nat),.l N,.l (out++[[.l (stk.drop (stk.length-m))]]),.l (stk.take (stk.length-m)++[[.i (o:Nat)]])]):=by
 have hg:N.getD o []=node kd n v m:=by rw[List.getD_eq_getElem?_getD,List.getElem?_eq_getElem ho,hn];rfl
 have hw:w64 ((stk.length:Int)-(m:Int))=((stk.length-m:Nat):Int):=by rw[w64_of (by omega) (by omega)];omega
 have hw1:=w1 ho (show N.length<big by simp only[big];omega)
 have e1:¬((m:Int)<0):=by omega
 have e2:¬((m:Int)>(stk.length:Int)):=by omega
 have e3:((stk.length-m:Nat):Int)≤(stk.length:Int):=by omega
 have e4:(stk.drop (stk.length-m)).length≤4294967296:=by rw[List.length_drop];omega
 have e5:out.length+1≤4294967296:=by omega
 have e6:(stk.take (stk.length-m)).length+1≤4294967296:=by rw[List.length_take];omega
 simp only[apL,jC,jD,s_l1Kids.d1,C.I_i,C.L_l,jY,hg,node,hw,hw1,List.take_length,List.drop_zero,nils,rows,jB,List.length_nil,List.length_cons,Nat.zero_add,e1,e2,e3,e4,e5,e6,decide_true,decide_false,jR,jS,ja,jX,Int.le_refl]
 simp[ho]
theorem drop_at {α:Type} {N l r:List α} {o:Nat} {x:α} (h:N.drop o=l++x::r):∃h:o+l.length<N.length,N[o+l.length]=x:=by
 have h2:N.drop (o+l.length)=x::r:=by rw[←List.drop_drop,h];simp
 obtain ⟨h3,h4,_⟩:=drop_cons h2
 exact ⟨h3,h4⟩
theorem s_kids {N:List (List C)} (hN:N.length≤1048576):∀(t:Tr) (o:Nat) (out stk r:List (List C)),N.drop o=t.flat++r→stk.length≤o→out.length≤o→
  lim (ap4 s_l1Kids.d1) [.i o,.l N,.l out,.l stk]=lim (ap4 s_l1Kids.d1) [.i (o+t.sz:Nat),.l N,.l (out++t.kids o),.l (stk++[[.i (o+t.sz-1:Nat)]])]
 |.lf kd n v,o,out,stk,r,h,hs,ho=>by
  obtain ⟨h1,h2,_⟩:=drop_cons (show N.drop o=node kd n v 0::r from h)
  rw[lim_again (kid_step hN h1 h2 (Nat.zero_le _) hs ho)]
  simp[Tr.sz,Tr.kids]
 |.un t,o,out,stk,r,h,hs,ho=>by
  have h':N.drop o=t.flat++(node 3 [] [] 1::r):=by rw[h];simp[Tr.flat]
  rw[s_kids hN t o out stk _ h' hs ho]
  obtain ⟨h1,h2⟩:=drop_at h'
  rw[t.flat_len] at h1
  have h2:N[o+t.sz]=node 3 [] [] 1:=by simp only[t.flat_len] at h2;exact h2
  rw[lim_again (kid_step hN h1 h2 (by simp) (by have:=t.sz_pos;simp;omega) (by simp[t.kids_len];omega))]
  have e1:(stk++[[C.i (o+t.sz-1:Nat)]]).length-1=stk.length:=by simp
  rw[e1,List.drop_left',List.take_left']<;>simp[Tr.sz,Tr.kids]
  rfl
 |.bn kd a b,o,out,stk,r,h,hs,ho=>by
  have h':N.drop o=a.flat++(b.flat++(node kd [] [] 2::r)):=by rw[h];simp[Tr.flat]
  have h'':N.drop (o+a.sz)=b.flat++(node kd [] [] 2::r):=by rw[←List.drop_drop,h',←a.flat_len];simp
  have ha:=a.sz_pos
  have hb:=b.sz_pos
  rw[s_kids hN a o out stk _ h' hs ho,s_kids hN b (o+a.sz) _ _ _ h'' (by simp;omega) (by simp[a.kids_len];omega)]
  obtain ⟨h1,h2⟩:=drop_at h''
  rw[b.flat_len] at h1
  have h2:N[o+a.sz+b.sz]=node kd [] [] 2:=by simp only[b.flat_len] at h2;exact h2
  rw[lim_again (kid_step hN h1 h2 (by simp) (by simp;omega) (by simp[a.kids_len,b.kids_len];omega))]
  have e1:(stk++[[C.i (o+a.sz-1:Nat)]]++[[C.i (o+a.sz+b.sz-1:Nat)]]).length-2=stk.length:=by simp
  have e2:stk++[[C.i (o+a.sz-1:Nat)]]++[[C.i (o+a.sz+b.sz-1:Nat)]]=stk++[[C.i (o+a.sz-1:Nat)],[C.i (o+a.sz+b.sz-1:Nat)]]:=by simp
  rw[e1,e2,List.drop_left',List.take_left']
  ·have e3:o+(Tr.bn kd a b).sz=o+a.sz+b.sz+1:=by simp only[Tr.sz];omega
   rw[e3]
   simp[Tr.kids]
  ·rfl
  ·rfl
theorem s_l1Kids_eq (t:Tr) (ht:t.sz≤1048576):s_l1Kids [.l t.flat]=some [.b true,.l (t.kids 0)]:=by
 have hN:t.flat.length≤1048576:=by rw[t.flat_len];exact ht
 have h:=s_kids hN t 0 [] [] [] (by simp) (by simp) (by simp)
 have he:ap4 s_l1Kids.d1 [.i (0+t.sz:Nat),.l t.flat,.l ([]++t.kids 0),.l ([]++[[.i (0+t.sz-1:Nat)]])]=some (.brk 0 [.l (t.kids 0),.l [[.i (t.sz-1:Nat)]]]):=by
  simp[s_l1Kids.d1,t.flat_len]
 rw[lim_brk he] at h
 simp only[s_l1Kids,s_l1Kids.d3,apL,jC,nils]
 erw[h]
 simp[s_l1Kids.d2]
end Go.Ev
namespace Go.Ev
section
variable {K:List (List C)} (hK:K.length≤1048576)
include hK
theorem nest_step (G:List C→Option (List C)) {ix:Nat} (hi:ix<K.length) {l:List (List C)} (hr:K[ix]=[.l l]) {d c e:Nat} (hd:d<l.length) (hl:l.length≤2) {kid:Nat} (hk:l[d]=[.i (kid:Nat)])
  (hG:G [.l K,.i (kid:Nat)]=some [.i (e:Nat)]) (he:e<big):
  ap4 (s_l1Nest.d1 G) [.l K,.i (ix:Nat),.i (c:Nat),.i (d:Nat)]=some (.again [.l K,.i (ix:Nat),.i (max c (e+1):Nat),.i (d+1:Nat)]):=by
 have hg:K.getD ix []=[.l l]:=by rw[List.getD_eq_getElem?_getD,List.getElem?_eq_getElem hi,hr];rfl
 have hgd:l.getD d []=[.i (kid:Nat)]:=by rw[List.getD_eq_getElem?_getD,List.getElem?_eq_getElem hd,hk];rfl
 have hw:=w64n he
 have hwd:w64 ((d:Int)+1)=((d+1:Nat):Int):=w64n (by simp only[big];omega)
 simp only[apL,jC,jD,s_l1Nest.d1,C.I_i,C.L_l,jY,hg,hgd,hG,call1,jI,hw,hwd,jX,decide_true,jR]
 have e1:((ix:Int)<(K.length:Int)):=by omega
 have e2:((d:Int)<(l.length:Int)):=by omega
 simp only[e1,e2,decide_true,jR]
 by_cases h:((e+1:Nat):Int)>(c:Int)
 ·have:max c (e+1)=e+1:=by omega
  simp only[h,decide_true,jR,this]
 ·have:max c (e+1)=c:=by omega
  simp only[h,decide_false,jS,this]
theorem nest_end (G:List C→Option (List C)) {ix:Nat} (hi:ix<K.length) {l:List (List C)} (hr:K[ix]=[.l l]) {c:Nat}:
  ap4 (s_l1Nest.d1 G) [.l K,.i (ix:Nat),.i (c:Nat),.i (l.length:Nat)]=some (.brk 0 [.i (c:Nat)]):=by
 have hg:K.getD ix []=[.l l]:=by rw[List.getD_eq_getElem?_getD,List.getElem?_eq_getElem hi,hr];rfl
 simp only[apL,jC,jD,s_l1Nest.d1,C.I_i,C.L_l,jY,hg]
 simp[hi]
theorem s_nest:∀(k:Nat) (t:Tr) (o:Nat) (r:List (List C)),t.depth<k→t.depth<big→K.drop o=t.kids o++r→s_l1Nest.g k 0 [.l K,.i (o+t.sz-1:Nat)]=some [.i (t.depth:Nat)]
 |0,t,o,r,h,_,_=>by omega
 |k+1,t,o,r,h,hb,hd=>by
  have hs:∀x,s_l1Nest.g (k+1) 0 x=s_l1Nest.step (s_l1Nest.g k 0) x:=fun _=>rfl
  rw[hs]
  simp only[s_l1Nest.step,s_l1Nest.d3,apL,jC,jD]
  cases t with
  |lf kd n v=>
   obtain ⟨h1,h2,_⟩:=drop_cons (show K.drop o=[.l []]::r from hd)
   have:=lim_brk (nest_end hK (s_l1Nest.g k 0) h1 h2 (c:=0))
   simp only[List.length_nil,Int.ofNat_zero,Int.natCast_zero] at this
   have e:o+(Tr.lf kd n v).sz-1=o:=by simp[Tr.sz]
   rw[e,this]
   simp[s_l1Nest.d2,Tr.depth]
  |un t=>
   simp only[Tr.depth] at h hb
   have h':K.drop o=t.kids o++([.l [[.i (o+t.sz-1:Nat)]]]::r):=by rw[hd];simp[Tr.kids]
   have ih:=s_nest k t o _ (by omega) (by omega) h'
   obtain ⟨h1,h2⟩:=drop_at h'
   rw[t.kids_len] at h1
   have h2:K[o+t.sz]=[.l [[.i (o+t.sz-1:Nat)]]]:=by simp only[t.kids_len] at h2;exact h2
   have e:o+(Tr.un t).sz-1=o+t.sz:=by simp[Tr.sz]
   have s1:=nest_step hK (s_l1Nest.g k 0) h1 h2 (d:=0) (c:=0) (by simp) (by simp) (kid:=o+t.sz-1) rfl ih (by omega)
   have s2:=nest_end hK (s_l1Nest.g k 0) h1 h2 (c:=max 0 (t.depth+1))
   simp only[Int.natCast_zero,Nat.zero_max,List.length_cons,List.length_nil,Nat.zero_add] at s1 s2
   rw[e,lim_again s1,lim_brk s2]
   simp[s_l1Nest.d2,Tr.depth]
  |bn kd a b=>
   simp only[Tr.depth] at h hb
   have h':K.drop o=a.kids o++(b.kids (o+a.sz)++([.l [[.i (o+a.sz-1:Nat)],[.i (o+a.sz+b.sz-1:Nat)]]]::r)):=by rw[hd];simp[Tr.kids]
   have h'':K.drop (o+a.sz)=b.kids (o+a.sz)++([.l [[.i (o+a.sz-1:Nat)],[.i (o+a.sz+b.sz-1:Nat)]]]::r):=by
    rw[←List.drop_drop,h',←a.kids_len o];simp
   have iha:=s_nest k a o _ (by omega) (by omega) h'
   have ihb:=s_nest k b (o+a.sz) _ (by omega) (by omega) h''
   obtain ⟨h1,h2⟩:=drop_at h''
   rw[b.kids_len] at h1
   have h2:K[o+a.sz+b.sz]=[.l [[.i (o+a.sz-1:Nat)],[.i (o+a.sz+b.sz-1:Nat)]]]:=by simp only[b.kids_len] at h2;exact h2
   have e:o+(Tr.bn kd a b).sz-1=o+a.sz+b.sz:=by simp only[Tr.sz];omega
   have s1:=nest_step hK (s_l1Nest.g k 0) h1 h2 (d:=0) (c:=0) (by simp) (by simp) (kid:=o+a.sz-1) rfl iha (by omega)
   have s2:=nest_step hK (s_l1Nest.g k 0) h1 h2 (d:=1) (c:=max 0 (a.depth+1)) (by simp) (by simp) (kid:=o+a.sz+b.sz-1) rfl ihb (by omega)
   have s3:=nest_end hK (s_l1Nest.g k 0) h1 h2 (c:=max (max 0 (a.depth+1)) (b.depth+1))
   simp only[Int.natCast_zero,List.length_cons,List.length_nil,Nat.zero_add,Nat.reduceAdd] at s1 s2 s3
   rw[e,lim_again s1,lim_again s2,lim_brk s3]
   have e2:max (max 0 (a.depth+1)) (b.depth+1)=max a.depth b.depth+1:=by omega
   rw[e2]
   simp[s_l1Nest.d2,Tr.depth]
end
inductive OkN:List C→Prop
 |n1 (n:Tok) (h:nameOk (mkS n)=true):OkN (node 1 n [] 0)
 |n2 (n v:Tok) (h:nameOk (mkS n)=true) (h2:nameOk (mkS v)=true):OkN (node 2 n v 0)
 |n3:OkN (node 3 [] [] 1)
 |n4:OkN (node 4 [] [] 2)
 |n5:OkN (node 5 [] [] 2)
theorem Tr.okN:∀(t:Tr),t.Wf→∀r,r∈t.flat→OkN r
 |.lf k n v,h,r,hr=>by
  simp only[Tr.flat,List.mem_singleton] at hr
  subst hr
  rcases h with ⟨h1,⟨rfl,rfl⟩|⟨rfl,h2⟩⟩
  ·exact .n1 n h1
  ·exact .n2 n v h1 h2
 |.un t,h,r,hr=>by
  simp only[Tr.flat,List.mem_append,List.mem_singleton] at hr
  rcases hr with hr|rfl
  ·exact t.okN h r hr
  ·exact .n3
 |.bn k a b,h,r,hr=>by
  simp only[Tr.flat,List.mem_append,List.mem_singleton] at hr
  rcases hr with (hr|hr)|rfl
  ·exact a.okN h.2.1 r hr
  ·exact b.okN h.2.2 r hr
  ·rcases h.1 with rfl|rfl
   ·exact .n4
   ·exact .n5
theorem nameOk_size {s:Str} (h:nameOk s=true):s.size≤1048576:=by
 simp only[nameOk,within,Bool.and_eq_true,decide_eq_true_eq] at h
 omega
theorem emp:(mkS []).toList=[]:=toList_data' _
theorem tree_step {N:List (List C)} (hN:N.length≤1048576) {i:Nat} (hi:i<N.length) (ho:OkN N[i]):
  ap2 s_l1Tree.d4 [.i i,.l N]=some (.again [.i (i+1:Nat),.l N]):=by
 have hw1:=w1 hi (show N.length<big by simp only[big];omega)
 have hg:N.getD i []=N[i]:=by rw[List.getD_eq_getElem?_getD,List.getElem?_eq_getElem hi];rfl
 have e0:((i:Int)<(N.length:Int)):=by omega
 have key:∀r,OkN r→N.getD i []=r→ap2 s_l1Tree.d4 [.i i,.l N]=some (.again [.i (i+1:Nat),.l N]):=by
  intro r hr hgr
  have z1:within 1 0 5=true:=rfl
  have z2:within 2 0 5=true:=rfl
  have z3:within 3 0 5=true:=rfl
  have z4:within 4 0 5=true:=rfl
  have z5:within 5 0 5=true:=rfl
  have t2:Int.toNat 2=2:=rfl
  have t3:Int.toNat 3=3:=rfl
  have t4:Int.toNat 4=4:=rfl
  have t5:Int.toNat 5=5:=rfl
  cases hr with
  |n1 n h=>
   simp only[apL,jC,jD,s_l1Tree.d4,C.I_i,C.L_l,jY,hgr,node]
   simp[s_l1Tree.d3,s_l1Tree.d2,s_l1Tree.d1,s_l1In_eq,z1,call1,s_l1NameOk_eq _ (nameOk_size h),h,emp,bs_nil,hw1,hi]
  |n2 n v h h2=>
   simp only[apL,jC,jD,s_l1Tree.d4,C.I_i,C.L_l,jY,hgr,node]
   simp[s_l1Tree.d3,s_l1Tree.d2,s_l1Tree.d1,s_l1In_eq,z2,t2,call1,s_l1NameOk_eq _ (nameOk_size h),s_l1NameOk_eq _ (nameOk_size h2),h,h2,emp,bs_nil,hw1,hi]
  |n3=>
   simp only[apL,jC,jD,s_l1Tree.d4,C.I_i,C.L_l,jY,hgr,node]
   simp[s_l1Tree.d3,s_l1Tree.d2,s_l1Tree.d1,s_l1In_eq,z3,t3,call1,emp,bs_nil,hw1,hi]
  |n4=>
   simp only[apL,jC,jD,s_l1Tree.d4,C.I_i,C.L_l,jY,hgr,node]
   simp[s_l1Tree.d3,s_l1Tree.d2,s_l1Tree.d1,s_l1In_eq,z4,t4,call1,emp,bs_nil,hw1,hi]
  |n5=>
   simp only[apL,jC,jD,s_l1Tree.d4,C.I_i,C.L_l,jY,hgr,node]
   simp[s_l1Tree.d3,s_l1Tree.d2,s_l1Tree.d1,s_l1In_eq,z5,t5,call1,emp,bs_nil,hw1,hi]
 exact key _ ho hg
theorem s_l1Tree_eq (t:Tr) (ht:t.sz≤400) (hw:t.Wf):s_l1Tree [.l t.flat]=some [.b true]:=by
 have hN:t.flat.length≤1048576:=by rw[t.flat_len];omega
 have hloop:∀(k i:Nat),t.flat.length-i≤k→i≤t.flat.length→lim (ap2 s_l1Tree.d4) [.i i,.l t.flat]=some (.brk 0 []):=by
  intro k
  induction k with
  |zero=>
   intro i hk hi
   have:i=t.flat.length:=by omega
   subst this
   exact lim_brk (by simp[s_l1Tree.d4])
  |succ k ih=>
   intro i hk hi
   rcases Nat.lt_or_ge i t.flat.length with h|h
   ·rw[lim_again (tree_step hN h (t.okN hw _ (List.getElem_mem h)))]
    exact ih (i+1) (by omega) (by omega)
   ·have:i=t.flat.length:=by omega
    subst this
    exact lim_brk (by simp[s_l1Tree.d4])
 have h0:=hloop _ 0 (Nat.le_refl _) (Nat.zero_le _)
 simp only[Int.natCast_zero] at h0
 have e:¬((t.flat.length:Int)>400):=by rw[t.flat_len];omega
 simp only[s_l1Tree,s_l1Tree.d6,apL,jC,C.L_l,e,decide_false,jS,s_l1Kids_eq t (by omega),call2,jI,C.B_b,jZ,h0]
 simp[s_l1Tree.d5]
theorem s_l1Valid_eq (t:Tr) (ht:t.sz≤400) (hw:t.Wf):s_l1Valid [.l t.flat]=some [.b (decide (t.depth≤20))]:=by
 have hd:=t.depth_lt
 have hp:=t.sz_pos
 have hF:=FUEL_ge
 have hw1:w64 ((t.flat.length:Int)-1)=((0+t.sz-1:Nat):Int):=by rw[t.flat_len,w64_of (by omega) (by omega)];omega
 have hn:s_l1Nest [.l (t.kids 0),.i (0+t.sz-1:Nat)]=some [.i (t.depth:Nat)]:=
  s_nest (K:=t.kids 0) (by rw[t.kids_len];omega) FUEL t 0 [] (by omega) (by simp only[big];omega) (by simp)
 simp only[s_l1Valid,s_l1Valid.d1,apL,jC,jD,s_l1Tree_eq t ht hw,call1,call2,jI,C.B_b,jZ,jS,s_l1Kids_eq t (by omega),C.L_l,hw1,hn,C.I_i,jV]
 have:decide ((t.depth:Int)≤20)=decide (t.depth≤20):=by
  rw[decide_eq_decide];omega
 rw[this]
end Go.Ev
namespace Go.Ev
theorem lex_nil:∀l:List UInt8,(lexT l=[])↔l.all sp=true
 |[]=>by simp[lexT]
 |c::r=>by
  rw[lexT.eq_2]
  by_cases h:c=32
  ·subst h
   rw[if_pos rfl,List.all_cons,lex_nil r]
   simp[sp]
  ·rw[if_neg h]
   have:sp c=false:=by simp[sp,h]
   split<;>simp[this]
theorem i_trimR (s0:Str):∀(n:Nat) (l:List UInt8),l.length≤n→n≤1048576→∃q,lim (ap2 strings_trimRightByte.d1) [.s (mkS l),.i 32]=some (.brk 0 [.s (mkS q)])∧q.length≤l.length∧q.all sp=l.all sp
 |n,l,hn,hb=>by
  rcases List.eq_nil_or_concat l with rfl|⟨p,c,rfl⟩
  ·exact ⟨[],lim_brk (by simp[strings_trimRightByte.d1,mkS_size]),Nat.le_refl _,rfl⟩
  ·simp only[List.concat_eq_append] at hn⊢
   obtain ⟨n,rfl⟩:∃n',n=n'+1:=⟨n-1,by simp at hn;omega⟩
   have hsz:(mkS (p++[c])).size=p.length+1:=by rw[mkS_size];simp
   have hw:w64 (((p.length+1:Nat):Int)-1)=(p.length:Nat):=by simp at hn;rw[w64_of (by omega) (by omega)];omega
   have hgd:(mkS (p++[c])).data.getD p.length 0=c:=by
    rw[arr_getD (by rw[mkS_data];simp)]
    simp[mkS_data]
   have hext:(mkS (p++[c])).extract 0 p.length=mkS p:=by
    rw[ext_mkS,mkS_data];simp
   have e1:((p.length+1:Nat):Int)>0:=by omega
   have e2:(p.length:Int)<((p.length+1:Nat):Int):=by omega
   have e3:(p.length:Int)≤((p.length+1:Nat):Int):=by omega
   cases hc:sp c with
   |true=>
    have h:ap2 strings_trimRightByte.d1 [.s (mkS (p++[c])),.i 32]=some (.again [.s (mkS p),.i 32]):=by
     simp only[sp] at hc
     simp only[apL,jC,jD,strings_trimRightByte.d1,C.S_s,C.I_i,hsz,hw,jY,hgd,bn c 32 32 rfl,hc,hext,e1,e2,e3,decide_true,jR,jX]
    rw[lim_again h]
    obtain ⟨q,h1,h2,h3⟩:=i_trimR s0 n p (by simp at hn;omega) (by omega)
    exact ⟨q,h1,by simp;omega,by rw[h3];simp[hc]⟩
   |false=>
    refine ⟨p++[c],lim_brk ?_,Nat.le_refl _,rfl⟩
    simp only[sp] at hc
    simp only[apL,jC,jD,strings_trimRightByte.d1,C.S_s,C.I_i,hsz,hw,jY,hgd,bn c 32 32 rfl,hc,e1,e2,decide_true,jR,jS,jX]
theorem i_trimL:∀(l:List UInt8),l.length≤1048576→lim (ap2 strings_trimLeftByte.d1) [.s (mkS l),.i 32]=some (.brk 0 [.s (mkS (l.dropWhile sp))])
 |[],hn=>lim_brk (by simp[strings_trimLeftByte.d1,mkS_size])
 |c::r,hn=>by
  have hsz:(mkS (c::r)).size=r.length+1:=rfl
  have hgd:(mkS (c::r)).data.getD 0 0=c:=by
   rw[arr_getD (by rw[mkS_data];simp)]
   simp[mkS_data]
  have hext:(mkS (c::r)).extract 1 (r.length+1)=mkS r:=by
   rw[ext_mkS,mkS_data];simp
  have e1:((r.length+1:Nat):Int)>0:=by omega
  have e2:(1:Int)≤((r.length+1:Nat):Int):=by omega
  rw[List.dropWhile_cons]
  cases hc:sp c with
  |true=>
   have h:ap2 strings_trimLeftByte.d1 [.s (mkS (c::r)),.i 32]=some (.again [.s (mkS r),.i 32]):=by
    simp only[sp] at hc
    have e1':(0:Int)<((r.length+1:Nat):Int):=by omega
    simp only[apL,jC,jD,strings_trimLeftByte.d1,C.S_s,C.I_i,hsz,jY,hgd,bn c 32 32 rfl,hc,hext,e1,e1',e2,decide_true,jR,Int.le_refl]
   rw[lim_again h]
   simp only[List.length_cons] at hn
   simpa using i_trimL r (by omega)
  |false=>
   refine lim_brk ?_
   simp only[sp] at hc
   have e1':(0:Int)<((r.length+1:Nat):Int):=by omega
   simp only[apL,jC,jD,strings_trimLeftByte.d1,C.S_s,C.I_i,hsz,jY,hgd,bn c 32 32 rfl,hc,e1,e1',decide_true,jR,jS]
   rfl
theorem all_dropWhile (l:List UInt8):l.dropWhile sp=[]↔l.all sp=true:=by
 induction l with
 |nil=>simp
 |cons c r ih=>
  rw[List.dropWhile_cons,List.all_cons]
  cases hc:sp c<;>simp[ih]
theorem i_Trim (s:Str) (hl:s.size≤1048576):∃z,strings_Trim [.s s,.s (bs #[32])]=some [.s z]∧(z.toList==(bs #[]).toList)=s.data.toList.all sp:=by
 have hb32:bs #[32]=mkS [32]:=rfl
 simp only[strings_Trim,strings_Trim.d2,apL,jC,jD,C.S_s]
 cases hq:(s.toList==(bs #[]).toList) with
 |true=>
  have:s=mkS []:=(sEq_iff s (bs #[])).1 hq
  subst this
  refine ⟨mkS [],?_,?_⟩
  ·simp
  ·rw[hq];rfl
 |false=>
  have h32:((bs #[32]).toList==(bs #[]).toList)=false:=by
   rw[hb32,toList_data',bs_nil,toList_data'];rfl
  have hsz:(bs #[32]).size=1:=rfl
  have hgd:(bs #[32]).data.getD 0 0=32:=rfl
  obtain ⟨q,h1,h2,h3⟩:=i_trimR s s.data.toList.length s.data.toList (Nat.le_refl _) (by rw[←sz_list];exact hl)
  rw[mkS_of] at h1
  have h4:=i_trimL q (by rw[←sz_list] at h2;omega)
  refine ⟨mkS (q.dropWhile sp),?_,?_⟩
  ·have e1:(((32:UInt8).toNat:Nat):Int)=32:=rfl
   have e2:((1:Nat):Int)=1:=rfl
   simp only[ja,jR,h32,jS,hsz,hgd,e1,e2,strings_trimRightByte,strings_trimRightByte.d3,strings_trimLeftByte,strings_trimLeftByte.d3,apL,jC,jD,h1,bindBlk_self,strings_trimRightByte.d2,jV,call1,jI]
   simp[h4,strings_trimLeftByte.d2]
  ·rw[←h3,toList_data',bs_nil,toList_data',mkS_data,mkS_data]
   cases hall:q.all sp with
   |true=>rw[(all_dropWhile q).2 hall];rfl
   |false=>
    cases hd:q.dropWhile sp with
    |nil=>rw[(all_dropWhile q).1 hd] at hall;simp at hall
    |cons c r=>rfl
inductive PR where
 |err (n:Nat)
 |all
 |tree (t:Tr)
def pp (s:Str):PR:=
 if 200<s.size then .err 1
 else if s.data.toList.all sp=true then .all
 else match prs 1000 0 (lexT s.data.toList) with
  |some (t,[])=>if t.depth≤20 then .tree t else .err 3
  |_=>.err 2
def PR.nodes:PR→List (List C)
 |.err _=>[]
 |.all=>[node 0 [] [] 0]
 |.tree t=>t.flat
def PR.code:PR→Nat
 |.err n=>n
 |_=>0
def PR.ptr:PR→C
 |.err _=>.nil
 |.all=>.p [.i 0,.s (mkS []),.s (mkS []),.l []]
 |.tree t=>t.enc
theorem pp_tree {s:Str} {t:Tr} (h:pp s=.tree t):t.Wf∧t.sz≤200∧t.depth≤20:=by
 unfold pp at h
 split at h
 ·simp at h
 ·rename_i hs
  split at h
  ·simp at h
  ·split at h
   ·rename_i u hq
    split at h
    ·rename_i hd
     simp only[PR.tree.injEq] at h
     subst h
     obtain ⟨p,h1,h2,h3,h4⟩:=prs_wf _ _ _ _ _ hq
     have:=(lex_len _ s.data.toList (Nat.le_refl _)).1
     rw[h1] at this
     rw[←sz_list] at this
     simp at this
     exact ⟨h4,by omega,hd⟩
    ·simp at h
   ·simp at h
theorem s_PilotParse_eq (s:Str) (hl:s.size≤1048576):s_PilotParse [.s s]=some [.l (pp s).nodes,.i ((pp s).code:Nat)]:=by
 have hF:=FUEL_ge
 simp only[s_PilotParse,s_PilotParse.d1,apL,jC,C.S_s]
 by_cases hs:(s.size:Int)>200
 ·have h200:200<s.size:=by omega
  simp[hs,pp,h200,PR.nodes,PR.code]
 have h200:¬200<s.size:=by omega
 simp only[hs,decide_false,jS]
 have hlen:=lex_len _ s.data.toList (Nat.le_refl _)
 rw[←sz_list] at hlen
 rcases s_l1Tokens_eq s hl with ⟨hg,ht⟩|⟨hg,o,ht⟩
 ·simp only[ht,call2,jI,jC,jD,C.B_b,jZ,jS,C.L_l,jW]
  cases hall:s.data.toList.all sp with
  |true=>
   have:lexT s.data.toList=[]:=(lex_nil _).2 hall
   rw[this]
   simp[pp,h200,hall,PR.nodes,PR.code,node,bs_nil]
  |false=>
   have hne:lexT s.data.toList≠[]:=fun h=>by rw[(lex_nil _).1 h] at hall;simp at hall
   have hlp:0<(lexT s.data.toList).length:=List.length_pos_iff.2 hne
   have hz:(((lexT s.data.toList).length:Int)==0)=false:=by rw[beq_eq_false_iff_ne];omega
   obtain ⟨nodes,a',bad,hgo,q1,q2,q3,q4⟩:=s_prs (T:=lexT s.data.toList) (by omega) (fun t ht=>by have:=hlen.2 t ht;omega) 1000 0 FUEL 0 (by omega) (by omega) (by omega) (by omega)
   have hgo:s_l1Parser_or [.l ((lexT s.data.toList).map tk),.i 0,.b false]=_:=hgo
   simp only[hz,jS,hgo,call4,jI,jC,jD,C.B_b,C.I_i]
   simp only[List.drop_zero] at q4
   simp only[pp,if_neg h200,hall,Bool.false_eq_true,if_false]
   cases hp:prs 1000 0 (lexT s.data.toList) with
   |none=>
    rw[hp] at q4
    simp only at q4
    subst q4
    simp[PR.nodes,PR.code]
   |some z=>
    obtain ⟨t,r⟩:=z
    rw[hp] at q4
    obtain ⟨rfl,rfl,q5,q6⟩:=q4
    simp only[ja,jR]
    have hrl:r.length=(lexT s.data.toList).length-a':=by rw[←q5];simp
    cases r with
    |cons x r=>
     simp only[List.length_cons] at hrl
     have:(a':Int)<((lexT s.data.toList).length:Int):=by omega
     simp[this,PR.nodes,PR.code]
    |nil=>
     simp only[List.length_nil] at hrl
     have:¬(a':Int)<((lexT s.data.toList).length:Int):=by omega
     obtain ⟨p,h1,h2,h3,h4⟩:=prs_wf _ _ _ _ _ hp
     have h5:t.sz≤400:=by
      have:=hlen.1
      rw[h1] at this
      simp at this
      omega
     simp only[this,decide_false,jS,s_l1Valid_eq t h5 h4,call1,jI,jC,C.B_b]
     by_cases hd:t.depth≤20<;>simp[hd,PR.nodes,PR.code]
 ·simp only[ht,call2,jI,jC,jD,C.B_b,ja,jR,jV,nils]
  have hcode:pp s=.err 2:=by
   unfold pp
   rw[if_neg h200,if_neg]
   ·split
    ·rename_i t hq
     obtain ⟨p,h1,h2,h3,h4⟩:=prs_wf _ _ _ _ _ hq
     have:=lex_legal _ s.data.toList (Nat.le_refl _) (fun x hx=>h2 x (by rw[h1] at hx;simpa using hx))
     rw[this] at hg;simp at hg
    ·rfl
   ·intro hall
    have:s.data.toList.all legal=true:=by
     rw[List.all_eq_true] at hall⊢
     intro x hx
     have:=hall x hx
     simp only[sp] at this
     simp[legal,this]
    rw[this] at hg;simp at hg
  rw[hcode]
  rfl
theorem i_pParse_eq (s:Str) (hl:s.size≤1048576):i_pParse [.s s]=some [(pp s).ptr,.i ((pp s).code:Nat)]:=by
 have hF:=FUEL_ge
 simp only[i_pParse,i_pParse.d1,apL,jC,C.S_s]
 by_cases hs:(s.size:Int)>200
 ·have h200:200<s.size:=by omega
  simp[hs,pp,h200,PR.ptr,PR.code]
 have h200:¬200<s.size:=by omega
 have hlen:=lex_len _ s.data.toList (Nat.le_refl _)
 rw[←sz_list] at hlen
 obtain ⟨z,hz,hz2⟩:=i_Trim s hl
 simp only[hs,decide_false,jS,hz,call1,jI,jC,C.S_s,hz2]
 cases hall:s.data.toList.all sp with
 |true=>simp[pp,h200,hall,PR.ptr,PR.code,bs_nil]
 |false=>
  obtain ⟨c,i',ok,hgo,q1,q2⟩:=i_prs (s:=s) hl 1000 0 FUEL 0 (by omega) (by omega) (by simp only[List.drop_zero];omega) (by omega)
  have hgo:i_pParser_or [.s s,.i 0,.b true]=_:=hgo
  simp only[List.drop_zero] at q2
  simp only[jS,hgo,call4,jI,jC,jD,i_gap hl i' ok q1,call3,C.B_b,C.I_i]
  simp only[pp,if_neg h200,hall,Bool.false_eq_true,if_false]
  cases hp:prs 1000 0 (lexT s.data.toList) with
  |none=>
   rw[hp] at q2
   simp only at q2
   subst q2
   simp[PR.ptr,PR.code]
  |some y=>
   obtain ⟨t,r⟩:=y
   rw[hp] at q2
   obtain ⟨rfl,rfl,q3,q4⟩:=q2
   have hgd:=gp_drop (s:=s) i'
   have hlt:=lexT_gap (s.data.toList.drop i')
   rw[q3,←hgd] at hlt
   simp only[jZ,ja,jR,jS]
   cases r with
   |cons x r=>
    have:(gp s i':Int)<(s.size:Int):=by
     rcases Nat.lt_or_ge (gp s i') s.size with h|h
     ·omega
     ·rw[sz_list] at h
      rw[List.drop_eq_nil_of_le h] at hlt
      simp[lexT] at hlt
    simp[this,PR.ptr,PR.code]
   |nil=>
    have:¬(gp s i':Int)<(s.size:Int):=by
     intro h
     have h:gp s i'<s.data.toList.length:=by rw[←sz_list];omega
     have h1:=(lex_nil _).1 hlt
     rw[hgd] at h1
     have h2:((s.data.toList.drop i').dropWhile sp).length=s.data.toList.length-gp s i':=by rw[←hgd];simp
     cases hq:(s.data.toList.drop i').dropWhile sp with
     |nil=>rw[hq] at h2;simp at h2;omega
     |cons x r=>
      have:=gap_head hq
      rw[hq] at h1
      simp[sp] at h1
      exact this h1.1
    obtain ⟨p,h1,h2,h3,h4⟩:=prs_wf _ _ _ _ _ hp
    have h5:t.sz≤400:=by
     have:=hlen.1
     rw[h1] at this
     simp at this
     omega
    have hdl:=t.depth_lt
    have hdep:i_pSel_depth [t.enc]=some [.i (t.depth:Nat)]:=i_depth FUEL t (by omega) (by simp only[big];omega)
    simp only[this,decide_false,jS,hdep,call1,jI,jC,C.I_i]
    by_cases hd:t.depth≤20
    ·have hd':¬(t.depth:Int)>20:=by omega
     simp only[hd',decide_false,jS,jV]
     simp[hd,PR.ptr,PR.code]
    ·have hd':(t.depth:Int)>20:=by omega
     simp only[hd',decide_true,jR,jV]
     simp[hd,PR.ptr,PR.code]
end Go.Ev
namespace Go.Ev
def findIx {α:Type} (p:α→Bool):List α→Nat→Int
 |[],_=>-1
 |x::r,n=>bif p x then n else findIx p r (n+1)
def allFrom (p:Nat→Bool):Nat→Nat→Bool
 |_,0=>true
 |i,k+1=>p i&&allFrom p (i+1) k
theorem allFrom_iff (p:Nat→Bool):∀(k i:Nat),allFrom p i k=true↔∀j,i≤j→j<i+k→p j=true
 |0,i=>by simp[allFrom];omega
 |k+1,i=>by
  simp only[allFrom,Bool.and_eq_true,allFrom_iff p k (i+1)]
  constructor
  ·rintro ⟨h1,h2⟩ j hj hk
   rcases Nat.lt_or_eq_of_le hj with h|rfl
   ·exact h2 j h (by omega)
   ·exact h1
  ·intro h
   exact ⟨h i (Nat.le_refl _) (by omega),fun j h1 h2=>h j (by omega) (by omega)⟩
theorem chk_loop {body:List C→R} {S:Nat→List C} {p:Nat→Bool} {n b:Nat} {ys r:List C} (hs:∀i,i<n→body (S i)=bif p i then some (.again (S (i+1))) else some (.ret r)) (he:body (S n)=some (.brk b ys)):
  ∀k i,k+i=n→lim body (S i)=bif allFrom p i k then some (.brk b ys) else some (.ret r)
 |0,i,h=>by
  have:i=n:=by omega
  subst this
  rw[lim_brk he];rfl
 |k+1,i,h=>by
  have h1:=hs i (by omega)
  simp only[allFrom]
  cases hp:p i with
  |true=>
   rw[hp] at h1
   rw[lim_again h1,chk_loop hs he k (i+1) (by omega)]
   simp
  |false=>
   rw[hp] at h1
   rw[lim_ret h1]
   simp
theorem run_loop {body:List C→R} {S:Nat→List C} {n b:Nat} {ys:List C} (hs:∀i,i<n→body (S i)=some (.again (S (i+1)))) (he:body (S n)=some (.brk b ys)):
  ∀k i,k+i=n→lim body (S i)=some (.brk b ys)
 |0,i,h=>by
  have:i=n:=by omega
  subst this
  exact lim_brk he
 |k+1,i,h=>by rw[lim_again (hs i (by omega))];exact run_loop hs he k (i+1) (by omega)
theorem find_loop {α:Type} {l:List α} {body:List C→R} {S:Nat→List C} {p:α→Bool} {b:Nat} (hs:∀i (h:i<l.length),body (S i)=bif p l[i] then some (.ret [.i (i:Nat)]) else some (.again (S (i+1)))) (he:body (S l.length)=some (.brk b [])):
  ∀k i,k+i=l.length→bindBlk b (lim body (S i)) (fun _=>some (.ret [.i (-1)]))=some (.ret [.i (findIx p (l.drop i) i)])
 |0,i,h=>by
  have:i=l.length:=by omega
  subst this
  rw[lim_brk he];simp[findIx]
 |k+1,i,h=>by
  have hi:i<l.length:=by omega
  have h1:=hs i hi
  rw[List.drop_eq_getElem_cons hi]
  simp only[findIx]
  cases hp:p l[i] with
  |true=>rw[hp] at h1;rw[lim_ret h1];simp
  |false=>rw[hp] at h1;rw[lim_again h1,find_loop hs he k (i+1) (by omega)];simp
def bIx (f:Fl) (nm:Str):Int:=findIx (fun x:Bt=>sEq x.name nm) f.bts 0
def sIx (f:Fl) (nm:Str):Int:=findIx (fun x:Sv=>sEq x.name nm) f.svs 0
def cIx (f:Fl) (nm:Str):Int:=findIx (fun x:Cp=>sEq x.name nm) f.cps 0
theorem s_l2Service_eq (f:Fl) (nm:Str) (hl:f.svs.length≤1048576):s_l2Service (f.e++[.s nm])=some [.i (sIx f nm)]:=by
 have h:=find_loop (l:=f.svs) (body:=ap6 s_l2Service.d1) (S:=fun i=>[.s nm,.i (i:Nat),.b f.pack,.l (f.bts.map Bt.e),.l (f.svs.map Sv.e),.l (f.cps.map Cp.e)]) (p:=fun x=>sEq x.name nm) (b:=0)
  (fun i hi=>by
   simp only[apL,jC,jD,s_l2Service.d1,C.I_i,C.L_l,C.S_s,jW,jY,getD_map' Sv.e hi,w1 hi (show f.svs.length<big by simp only[big];omega)]
   simp only[Sv.e,jC,C.S_s]
   cases hs:sEq f.svs[i].name nm<;>simp only[sEq] at hs<;>simp[hs,hi])
  (by simp[s_l2Service.d1]) f.svs.length 0 rfl
 simp only[s_l2Service,s_l2Service.d3,Fl.e,jA,jB,apL,jC,jD]
 rw[show (fun xs:List C=>s_l2Service.d2)=fun _=>some (.ret [.i (-1)]) from rfl]
 erw[h]
 rfl
theorem s_l2Berth_eq (f:Fl) (nm:Str) (hl:f.bts.length≤1048576):s_l2Berth (f.e++[.s nm])=some [.i (bIx f nm)]:=by
 have h:=find_loop (l:=f.bts) (body:=ap6 s_l2Berth.d1) (S:=fun i=>[.s nm,.i (i:Nat),.b f.pack,.l (f.bts.map Bt.e),.l (f.svs.map Sv.e),.l (f.cps.map Cp.e)]) (p:=fun x=>sEq x.name nm) (b:=0)
  (fun i hi=>by
   simp only[apL,jC,jD,s_l2Berth.d1,C.I_i,C.L_l,C.S_s,jW,jY,getD_map' Bt.e hi,w1 hi (show f.bts.length<big by simp only[big];omega)]
   simp only[Bt.e,jC,C.S_s]
   cases hs:sEq f.bts[i].name nm<;>simp only[sEq] at hs<;>simp[hs,hi])
  (by simp[s_l2Berth.d1]) f.bts.length 0 rfl
 simp only[s_l2Berth,s_l2Berth.d3,Fl.e,jA,jB,apL,jC,jD]
 rw[show (fun xs:List C=>s_l2Berth.d2)=fun _=>some (.ret [.i (-1)]) from rfl]
 erw[h]
 rfl
theorem s_l2Copy_eq (f:Fl) (nm:Str) (hl:f.cps.length≤1048576):s_l2Copy (f.e++[.s nm])=some [.i (cIx f nm)]:=by
 have h:=find_loop (l:=f.cps) (body:=ap6 s_l2Copy.d1) (S:=fun i=>[.s nm,.i (i:Nat),.b f.pack,.l (f.bts.map Bt.e),.l (f.svs.map Sv.e),.l (f.cps.map Cp.e)]) (p:=fun x=>sEq x.name nm) (b:=0)
  (fun i hi=>by
   simp only[apL,jC,jD,s_l2Copy.d1,C.I_i,C.L_l,C.S_s,jW,jY,getD_map' Cp.e hi,w1 hi (show f.cps.length<big by simp only[big];omega)]
   simp only[Cp.e,jC,C.S_s]
   cases hs:sEq f.cps[i].name nm<;>simp only[sEq] at hs<;>simp[hs,hi])
  (by simp[s_l2Copy.d1]) f.cps.length 0 rfl
 simp only[s_l2Copy,s_l2Copy.d3,Fl.e,jA,jB,apL,jC,jD]
 rw[show (fun xs:List C=>s_l2Copy.d2)=fun _=>some (.ret [.i (-1)]) from rfl]
 erw[h]
 rfl
theorem i_pBerthAt_eq (f:Fl) (nm:Str) (hl:f.bts.length≤1048576):i_pBerthAt (f.e++[.s nm])=some [.i (bIx f nm)]:=by
 have h:=find_loop (l:=f.bts) (body:=ap4 slices_IndexFunc_PilotBerth.d1) (S:=fun i=>[.l (f.bts.map Bt.e),.p [.s nm],.i (f.bts.length:Nat),.i (i:Nat)]) (p:=fun x=>sEq x.name nm) (b:=0)
  (fun i hi=>by
   simp only[apL,jC,jD,slices_IndexFunc_PilotBerth.d1,C.I_i,C.L_l,C.S_s,jW,jY,getD_map' Bt.e hi,w1 hi (show f.bts.length<big by simp only[big];omega)]
   simp only[Bt.e,jC,jD,i_pBerthAt_1,i_pBerthAt_1.d1,apL,C.S_s,C.isP_p,C.P_p,jR,jV,call1,jI,C.B_b]
   cases hs:sEq f.bts[i].name nm<;>simp only[sEq] at hs<;>simp[hs,hi])
  (by simp[slices_IndexFunc_PilotBerth.d1]) f.bts.length 0 rfl
 simp only[i_pBerthAt,i_pBerthAt.d1,slices_IndexFunc_PilotBerth,slices_IndexFunc_PilotBerth.d3,Fl.e,jA,jB,apL,jC,jD,C.L_l,jW]
 rw[show (fun xs:List C=>slices_IndexFunc_PilotBerth.d2)=fun _=>some (.ret [.i (-1)]) from rfl]
 erw[h]
 rfl
theorem i_pCopyAt_eq (f:Fl) (nm:Str) (hl:f.cps.length≤1048576):i_pCopyAt (f.e++[.s nm])=some [.i (cIx f nm)]:=by
 have h:=find_loop (l:=f.cps) (body:=ap4 slices_IndexFunc_PilotCopy.d1) (S:=fun i=>[.l (f.cps.map Cp.e),.p [.s nm],.i (f.cps.length:Nat),.i (i:Nat)]) (p:=fun x=>sEq x.name nm) (b:=0)
  (fun i hi=>by
   simp only[apL,jC,jD,slices_IndexFunc_PilotCopy.d1,C.I_i,C.L_l,C.S_s,jW,jY,getD_map' Cp.e hi,w1 hi (show f.cps.length<big by simp only[big];omega)]
   simp only[Cp.e,jC,jD,i_pCopyAt_1,i_pCopyAt_1.d1,apL,C.S_s,C.isP_p,C.P_p,jR,jV,call1,jI,C.B_b]
   cases hs:sEq f.cps[i].name nm<;>simp only[sEq] at hs<;>simp[hs,hi])
  (by simp[slices_IndexFunc_PilotCopy.d1]) f.cps.length 0 rfl
 simp only[i_pCopyAt,i_pCopyAt.d1,slices_IndexFunc_PilotCopy,slices_IndexFunc_PilotCopy.d3,Fl.e,jA,jB,apL,jC,jD,C.L_l,jW]
 rw[show (fun xs:List C=>slices_IndexFunc_PilotCopy.d2)=fun _=>some (.ret [.i (-1)]) from rfl]
 erw[h]
 rfl
def mkNm (s:Str):Str:=mkS (s.data.toList.takeWhile (· !=61))
def mkVal (s:Str):Str:=mkS (s.data.toList.dropWhile (· !=61)).tail
def mkOk (s:Str):Bool:=nameOk (mkNm s)&&((s.data.toList.dropWhile (· !=61)).isEmpty||nameOk (mkVal s))
theorem part_size {s:Str} {l:List UInt8} (hl:s.size≤1048576) (h:l.length≤s.data.toList.length):(mkS l).size≤1048576:=by
 rw[mkS_size];rw[sz_list] at hl;omega
theorem s_l1Mark_eq (s:Str) (hl:s.size≤1048576):s_l1Mark [.s s]=some [.s (mkNm s),.s (mkVal s),.b (mkOk s)]:=by
 have key:∀(k i:Nat),s.data.toList.length-i≤k→i≤s.data.toList.length→(s.data.toList.takeWhile (· !=61)).length=i+((s.data.toList.drop i).takeWhile (· !=61)).length→
   bindBlk 0 (lim (ap2 s_l1Mark.d1) [.s s,.i i]) (ap1 s_l1Mark.d2)=some (.ret [.s (mkNm s),.s (mkVal s),.b (mkOk s)]):=by
  intro k
  induction k with
  |zero=>
   intro i hk hi hr
   have e:i=s.data.toList.length:=by omega
   have hd:s.data.toList.drop i=[]:=List.drop_eq_nil_of_le (by omega)
   rw[hd] at hr
   simp only[List.takeWhile_nil,List.length_nil,Nat.add_zero] at hr
   have hdw:s.data.toList.dropWhile (· !=61)=[]:=by rw[←drop_run,hr];exact List.drop_eq_nil_of_le (by omega)
   have htw:s.data.toList.takeWhile (· !=61)=s.data.toList:=by
    have:=List.takeWhile_append_dropWhile (p:=fun x:UInt8=>x !=61) (l:=s.data.toList)
    rw[hdw,List.append_nil] at this;exact this
   rw[lim_brk (i:=0) (ys:=[.s s]) (by rw[e,←sz_list];simp[s_l1Mark.d1])]
   have h1:mkNm s=s:=by unfold mkNm;rw[htw];rfl
   have h2:mkVal s=mkS []:=by unfold mkVal;rw[hdw];rfl
   simp[s_l1Mark.d2,s_l1NameOk_eq s hl,call1,mkOk,h1,h2,hdw,bs_nil]
  |succ k ih=>
   intro i hk hi hr
   rcases Nat.lt_or_ge i s.data.toList.length with hlt|hge
   ·have his:i<s.size:=by rw[sz_list];exact hlt
    have hw:=w1 his (show s.size<big by simp only[big];omega)
    have hd:=List.drop_eq_getElem_cons hlt
    rw[hd,List.takeWhile_cons] at hr
    by_cases hc:s.data.toList[i]=61
    ·have hb:(s.data.toList[i] !=61)=false:=by rw[hc];rfl
     rw[hb] at hr
     simp only[Bool.false_eq_true,if_false,List.length_nil,Nat.add_zero] at hr
     have h1:s.extract 0 i=mkNm s:=by
      rw[ext_mkS,List.drop_zero];unfold mkNm;rw[←hr,take_run]
     have h2:s.extract (i+1) s.size=mkVal s:=by
      rw[ext_mkS,sz_list,List.take_length];unfold mkVal
      rw[←drop_run,hr,List.tail_drop]
     have hn1:(mkNm s).size≤1048576:=part_size hl (run_len _ _)
     have hn2:(mkVal s).size≤1048576:=part_size hl (by
      have:=(List.dropWhile_suffix (l:=s.data.toList) (· !=61)).length_le
      rw[List.length_tail];omega)
     have hdw:(s.data.toList.dropWhile (· !=61)).isEmpty=false:=by
      rw[←drop_run,hr,hd];rfl
     have e1:(i:Int)≤(s.size:Int):=by omega
     have e2:((i+1:Nat):Int)≤(s.size:Int):=by omega
     have hbn:=bn s.data.toList[i] 61 61 rfl
     have hbt:(s.data.toList[i]==61)=true:=by rw[hc];rfl
     have h:ap2 s_l1Mark.d1 [.s s,.i i]=some (.ret [.s (mkNm s),.s (mkVal s),.b (mkOk s)]):=by
      simp only[apL,jC,jD,s_l1Mark.d1,C.I_i,C.S_s,jY,arr_getD hlt,hw,hbn,hbt,h1,h2,s_l1NameOk_eq _ hn1,s_l1NameOk_eq _ hn2,call1,jI,C.B_b,e1,e2,decide_true,jR,jX,Int.le_refl,mkOk,hdw,Bool.false_or]
      cases nameOk (mkNm s)<;>simp[his]
     rw[lim_ret h];simp
    ·have hb:(s.data.toList[i] !=61)=true:=by rw[bne_iff_ne];exact hc
     rw[hb] at hr
     simp only[if_true,List.length_cons] at hr
     have hbn:=bn s.data.toList[i] 61 61 rfl
     have hbf:(s.data.toList[i]==61)=false:=by rw[beq_eq_false_iff_ne];exact hc
     have h:ap2 s_l1Mark.d1 [.s s,.i i]=some (.again [.s s,.i (i+1:Nat)]):=by
      simp only[apL,jC,jD,s_l1Mark.d1,C.I_i,C.S_s,jY,arr_getD hlt,hw,hbn,hbf]
      simp[his]
     rw[lim_again h]
     exact ih (i+1) (by omega) (by omega) (by omega)
   ·exact ih i (by omega) hi hr
 have:=key _ 0 (Nat.le_refl _) (Nat.zero_le _) (by simp)
 simp only[s_l1Mark,s_l1Mark.d3,apL,jC]
 erw[this]
 rfl
theorem indexByte_eq:∀l:List UInt8,Lib.indexByte l 61=if (l.dropWhile (· !=61)).isEmpty then-1 else ((l.takeWhile (· !=61)).length:Int)
 |[]=>rfl
 |c::r=>by
  simp only[Lib.indexByte,indexByte_eq r,List.dropWhile_cons,List.takeWhile_cons]
  by_cases hc:c=61
  ·subst hc;simp
  ·have hb:(c !=61)=true:=by simp[hc]
   have hb2:(c==61)=false:=by simp[hc]
   rw[hb,hb2]
   simp only[if_true,Bool.false_eq_true,if_false]
   cases (r.dropWhile (· !=61)).isEmpty with
   |true=>simp
   |false=>
    have:¬((((r.takeWhile (· !=61)).length:Int)==-1)=true):=by rw[beq_iff_eq];omega
    simp only[Bool.false_eq_true,if_false,if_neg this,List.length_cons]
    omega
theorem i_pMark_eq (s:Str) (hl:s.size≤1048576):i_pMark [.s s]=some [.s (mkNm s),.s (mkVal s),.b (mkOk s)]:=by
 have e1:(bs #[61]).size=1:=rfl
 have e2:(bs #[61]).data.getD 0 0=61:=rfl
 have hix:internal_stringslite_Index [.s s,.s (bs #[61])]=some [.i (Lib.indexByte s.data.toList 61)]:=by
  have e3:Nat.toUInt8 (((61:UInt8).toNat:Nat):Int).toNat=61:=rfl
  have e5:((((1:Nat):Int)==0))=false:=rfl
  have e6:((((1:Nat):Int)==1))=true:=rfl
  have e7:(0:Int)<((1:Nat):Int):=by omega
  simp only[internal_stringslite_Index,internal_stringslite_Index.d2,apL,jC,jD,C.S_s,e1,e5,ja,jR,jJ]
  cases hq:((bs #[61]).toList==s.toList) with
  |true=>
   have:bs #[61]=s:=(sEq_iff (bs #[61]) s).1 hq
   subst this
   simp[internal_stringslite_Index.d1]
   decide
  |false=>
   simp only[internal_stringslite_Index.d1,C.B_b,C.I_i,C.S_s,jS,jR,e1,e6,e7,decide_true,e2,internal_stringslite_IndexByte,ibF,jC,jD,e3,call1,jI,jV]
 rw[indexByte_eq] at hix
 have hn1:(mkNm s).size≤1048576:=part_size hl (run_len _ _)
 have hn2:(mkVal s).size≤1048576:=part_size hl (by
  have:=(List.dropWhile_suffix (l:=s.data.toList) (· !=61)).length_le
  rw[List.length_tail];omega)
 simp only[i_pMark,i_pMark.d1,strings_Cut,strings_Cut.d1,internal_stringslite_Cut,internal_stringslite_Cut.d1,apL,jC,jD,hix,call1,jI,C.I_i,C.S_s,e1]
 cases he:(s.data.toList.dropWhile (· !=61)).isEmpty with
 |true=>
  have hdw:s.data.toList.dropWhile (· !=61)=[]:=by simpa using he
  have htw:s.data.toList.takeWhile (· !=61)=s.data.toList:=by
   have:=List.takeWhile_append_dropWhile (p:=fun x:UInt8=>x !=61) (l:=s.data.toList)
   rw[hdw,List.append_nil] at this;exact this
  have h1:mkNm s=s:=by unfold mkNm;rw[htw];rfl
  have h2:mkVal s=mkS []:=by unfold mkVal;rw[hdw];rfl
  have e8:¬((-1:Int)≥0):=by omega
  simp only[if_true,e8,decide_false,jS,jV,call3,jI,jC,jD,C.B_b,i_pName_eq s hl,mkOk,he,Bool.true_or,Bool.and_true,h1,h2,bs_nil]
  cases nameOk s<;>simp
 |false=>
  have hlt:(s.data.toList.takeWhile (· !=61)).length<s.data.toList.length:=by
   have h:=congrArg List.length (List.takeWhile_append_dropWhile (p:=fun x:UInt8=>x !=61) (l:=s.data.toList))
   rw[List.length_append] at h
   cases hq:s.data.toList.dropWhile (· !=61) with
   |nil=>rw[hq] at he;simp at he
   |cons x r=>rw[hq] at h;simp only[List.length_cons] at h;omega
  have his:(s.data.toList.takeWhile (· !=61)).length<s.size:=by rw[sz_list];exact hlt
  have hw:=w1 his (show s.size<big by simp only[big];omega)
  have h1:s.extract 0 (s.data.toList.takeWhile (· !=61)).length=mkNm s:=by
   rw[ext_mkS,List.drop_zero];unfold mkNm;rw[take_run]
  have h2:s.extract ((s.data.toList.takeWhile (· !=61)).length+1) s.size=mkVal s:=by
   rw[ext_mkS,sz_list,List.take_length];unfold mkVal
   rw[←drop_run,List.tail_drop]
  have e3:(((s.data.toList.takeWhile (· !=61)).length:Int)≥0):=by omega
  have e4:((s.data.toList.takeWhile (· !=61)).length:Int)≤(s.size:Int):=by omega
  have e5:(((s.data.toList.takeWhile (· !=61)).length+1:Nat):Int)≤(s.size:Int):=by omega
  have e6:((1:Nat):Int)=1:=rfl
  simp only[Bool.false_eq_true,if_false,e6,hw,e3,e4,e5,decide_true,jR,jX,Int.le_refl,jY,h1,h2,jV,call3,jI,jC,jD,C.B_b,i_pName_eq _ hn1,i_pName_eq _ hn2,mkOk,he,Bool.false_or,jZ,ja]
  cases nameOk (mkNm s)<;>cases nameOk (mkVal s)<;>simp
end Go.Ev
namespace Go.Ev
def sLt (a b:Str):Bool:=Op.bytesLess a.toList b.toList
theorem bytesLess_not:∀(a b:List UInt8),(Op.bytesLess a b||a==b)=!Op.bytesLess b a
 |[],[]=>by simp[Op.bytesLess]
 |[],_::_=>by simp[Op.bytesLess]
 |_::_,[]=>by simp[Op.bytesLess]
 |x::a,y::b=>by
  have ih:=bytesLess_not a b
  simp only[Op.bytesLess]
  rcases Nat.lt_trichotomy x.toNat y.toNat with h|h|h
  ·have h1:x<y:=h
   have h2:¬y<x:=fun h'=>Nat.lt_asymm h h'
   have h3:¬y=x:=fun e=>by subst e;exact Nat.lt_irrefl _ h
   simp[h1,h2,h3]
  ·have e:x=y:=UInt8.toNat_inj.1 h
   subst e
   have:¬x<x:=Nat.lt_irrefl x.toNat
   simp only[this,decide_false,beq_self_eq_true,Bool.false_or,Bool.true_and]
   simpa using ih
  ·have h1:¬x<y:=fun h'=>Nat.lt_asymm h h'
   have h2:y<x:=h
   have h3:¬x=y:=fun e=>by subst e;exact Nat.lt_irrefl _ h
   simp[h1,h2,h3]
theorem sLt_not (a b:Str):(sLt a b||sEq a b)=!sLt b a:=bytesLess_not _ _
theorem mget_mset (z v:C) (k k':Str):∀es:List (List C),mget z k (mset k' v es)=bif sEq k k' then v else mget z k es
 |[]=>by simp[mset,mget,sEq]
 |r::es=>by
  simp only[mset]
  cases h:(k'.toList==(r.getD 0 .nil).S.toList) with
  |true=>
   have e:k'=(r.getD 0 .nil).S:=(sEq_iff _ _).1 h
   simp only[jR,mget,jC,jD,C.S_s]
   cases hk:sEq k k' with
   |true=>
    have h1:(k.toList==k'.toList)=true:=hk
    rw[h1];rfl
   |false=>
    have h1:(k.toList==k'.toList)=false:=hk
    have h2:(k.toList==(r.getD 0 .nil).S.toList)=false:=by rw[←e];exact hk
    rw[h1,h2];rfl
  |false=>
   simp only[jS,mget,mget_mset z v k k' es]
   cases h2:sEq k k' with
   |true=>
    have e:=(sEq_iff _ _).1 h2
    subst e
    rw[h];rfl
   |false=>simp
theorem sEq_comm (a b:Str):sEq a b=sEq b a:=by
 rw[Bool.eq_iff_iff,sEq_iff,sEq_iff];exact eq_comm
def sAt (ms:List Str) (i:Nat):Str:=ms.getD i (mkS [])
theorem sAt_get {ms:List Str} {i:Nat} (h:i<ms.length):sAt ms i=ms[i]:=by
 unfold sAt;rw[List.getD_eq_getElem?_getD,List.getElem?_eq_getElem h];rfl
def dupN (ms:List Str) (nm:Str) (i:Nat):Bool:=allFrom (fun k=>!sEq (mkNm (sAt ms k)) nm) 0 i
def markAt (ms:List Str) (i:Nat):Bool:=mkOk (sAt ms i)&&(i==0||sLt (sAt ms (i-1)) (sAt ms i))&&dupN ms (mkNm (sAt ms i)) i
def marksOk (ms:List Str):Bool:=decide (ms.length≤10)&&allFrom (markAt ms) 0 ms.length
theorem allFrom_succ (p:Nat→Bool):∀(k i:Nat),allFrom p i (k+1)=(allFrom p i k&&p (i+k))
 |0,i=>by simp[allFrom]
 |k+1,i=>by
  rw[allFrom,allFrom_succ p k (i+1),allFrom]
  rw[show i+1+k=i+(k+1) by omega,Bool.and_assoc]
section
variable {ms:List Str} (hz:SsSz 1048576 ms)
include hz
theorem s_dup (i:Nat) (hi:i≤ms.length) (nm:Str):∀k j,k+j=i→lim (ap4 s_l2MarksOk.d1) [.l (ms.map sE),.i (i:Nat),.s nm,.i (j:Nat)]=bif allFrom (fun k=>!sEq (mkNm (sAt ms k)) nm) j k then some (.brk 2 [.l (ms.map sE),.i (i:Nat),.s nm]) else some (.ret [.b false]):=by
 have hl:ms.length<big:=by have:=hz.1;simp only[big];omega
 refine chk_loop (S:=fun j=>[.l (ms.map sE),.i (i:Nat),.s nm,.i (j:Nat)]) (fun j hj=>?_) ?_
 ·have hjl:j<ms.length:=by omega
  have hsz:(sAt ms j).size≤1048576:=by rw[sAt_get hjl];exact hz.2 _ (List.getElem_mem hjl)
  have hjI:(j:Int)<(i:Int):=by omega
  simp only[apL,jC,jD,s_l2MarksOk.d1,C.I_i,C.L_l,jW,jY,getD_map' sE hjl,←sAt_get hjl,w1 hjl hl]
  simp only[sE,jC,s_l1Mark_eq _ hsz,call3,jI,C.S_s,jD]
  cases hq:sEq (mkNm (sAt ms j)) nm<;>simp only[sEq] at hq<;>simp[hq,hj,hjl]
 ·simp[s_l2MarksOk.d1]
theorem s_l2MarksOk_eq:s_l2MarksOk [.l (ms.map sE)]=some [.b (marksOk ms)]:=by
 have hl:ms.length<big:=by have:=hz.1;simp only[big];omega
 have h:=chk_loop (body:=ap3 s_l2MarksOk.d4) (S:=fun i=>[.l (ms.map sE),.s (bif i==0 then mkS [] else mkNm (sAt ms (i-1))),.i (i:Nat)]) (p:=markAt ms) (n:=ms.length) (b:=0) (ys:=[]) (r:=[.b false])
  (fun i hi=>by
   have hsz:(sAt ms i).size≤1048576:=by rw[sAt_get hi];exact hz.2 _ (List.getElem_mem hi)
   have hd3:∀nm:Str,s_l2MarksOk.d3 (.l (ms.map sE)) (.i (i:Nat)) (.s nm)=bif dupN ms nm i then some (.again [.l (ms.map sE),.s nm,.i (i+1:Nat)]) else some (.ret [.b false]):=fun nm=>by
    have:=s_dup hz i (by omega) nm i 0 (by omega)
    simp only[Int.natCast_zero] at this
    simp only[s_l2MarksOk.d3,this,dupN]
    cases allFrom (fun k=>!sEq (mkNm (sAt ms k)) nm) 0 i<;>simp[s_l2MarksOk.d2,w1 hi hl]
   simp only[apL,jC,jD,s_l2MarksOk.d4,C.I_i,C.L_l,jW,jY,getD_map' sE hi,←sAt_get hi]
   simp only[sE,jC,s_l1Mark_eq _ hsz,call3,jI,C.S_s,jD,C.B_b,Nat.add_sub_cancel]
   rcases Nat.eq_zero_or_pos i with h0|h0
   ·subst h0
    cases hok:mkOk (sAt ms 0) with
    |false=>simp[hok,markAt,hi]
    |true=>
     have:=hd3 (mkNm (sAt ms 0))
     simp only[Int.natCast_zero] at this
     simp[hok,markAt,hi,this,dupN,allFrom]
   ·have hi1:i-1<ms.length:=by omega
    have hw:w64 ((i:Int)-1)=((i-1:Nat):Int):=by rw[w64_of (by omega) (by simp only[big] at hl;omega)];omega
    have e1:((i:Int)>0):=by omega
    have e2:(((i-1:Nat):Int)<(ms.length:Int)):=by omega
    have e3:((i:Int)<(ms.length:Int)):=by omega
    have e4:(i==0)=false:=by simp;omega
    have e5:(i+1==0)=false:=by simp
    simp only[hw,jY,getD_map' sE hi1,←sAt_get hi1,e1,e2,e3,e4,e5,decide_true,jR,jS,jX,sE,jC,C.S_s,markAt,Bool.false_or]
    show (bindNrm (bif (!(!mkOk (sAt ms i))) then (bif (!(!sLt (sAt ms (i-1)) (sAt ms i))) then (bif sEq (mkNm (sAt ms i)) (mkNm (sAt ms (i-1))) then _ else _) else _) else _) _)=_
    cases hok:mkOk (sAt ms i) with
    |false=>simp
    |true=>
     cases hlt:sLt (sAt ms (i-1)) (sAt ms i) with
     |false=>simp
     |true=>
      cases hq:sEq (mkNm (sAt ms i)) (mkNm (sAt ms (i-1))) with
      |false=>simp[hd3]
      |true=>
       have:dupN ms (mkNm (sAt ms i)) i=false:=by
        cases hdu:dupN ms (mkNm (sAt ms i)) i with
        |false=>rfl
        |true=>
         have:=(allFrom_iff _ _ _).1 hdu (i-1) (by omega) (by omega)
         simp only[Bool.not_eq_true'] at this
         rw[(sEq_iff _ _).1 hq] at this
         have h2:=(sEq_iff (mkNm (sAt ms (i-1))) (mkNm (sAt ms (i-1)))).2 rfl
         rw[h2] at this;simp at this
       simp[this])
  (by simp[s_l2MarksOk.d4]) ms.length 0 rfl
 simp only[Int.natCast_zero] at h
 have h:lim (ap3 s_l2MarksOk.d4) [.l (ms.map sE),.s (bs #[]),.i 0]=_:=h
 simp only[s_l2MarksOk,s_l2MarksOk.d6,apL,jC,C.L_l,jW,h,marksOk]
 by_cases h10:(ms.length:Int)>10
 ·have:¬ms.length≤10:=by omega
  simp[h10,this]
 ·have:ms.length≤10:=by omega
  simp only[h10,this,decide_true,decide_false,jS,Bool.true_and]
  cases allFrom (markAt ms) 0 ms.length<;>simp[s_l2MarksOk.d5]
def mapN (ms:List Str):Nat→List (List C)
 |0=>[]
 |i+1=>mset (mkNm (sAt ms i)) (.b true) (mapN ms i)
omit hz in
theorem mapN_get (nm:Str):∀i,(mget (.b false) nm (mapN ms i)).B=!dupN ms nm i
 |0=>rfl
 |i+1=>by
  have hd:dupN ms nm (i+1)=(dupN ms nm i&&!sEq (mkNm (sAt ms i)) nm):=by
   unfold dupN;rw[allFrom_succ];simp
  rw[mapN,mget_mset,hd,sEq_comm]
  have ih:=mapN_get nm i
  cases h:sEq (mkNm (sAt ms i)) nm<;>simp[ih]
omit hz in
theorem prev_not (a b:Str):((Op.bytesLess b.toList a.toList)||(b.toList==a.toList))=!sLt a b:=by
 have:=sLt_not b a
 exact this
theorem i_marks (name zone:Str) (room hold:Int) (shut:Bool):lim (ap10 i_pBerthOk.d1) [.l (ms.map sE),.i (ms.length:Nat),.i 0,.s name,.s zone,.l (ms.map sE),.i room,.i hold,.b shut,.l []]=
  bif allFrom (markAt ms) 0 ms.length then some (.brk 0 []) else some (.ret [.b false]):=by
 have h:=fun hl:ms.length<big=>chk_loop (body:=ap10 i_pBerthOk.d1) (S:=fun i=>[.l (ms.map sE),.i (ms.length:Nat),.i (i:Nat),.s name,.s zone,.l (ms.map sE),.i room,.i hold,.b shut,.l (mapN ms i)]) (p:=markAt ms) (n:=ms.length) (b:=0) (ys:=[]) (r:=[.b false])
  (fun i hi=>by
   have hsz:(sAt ms i).size≤1048576:=by rw[sAt_get hi];exact hz.2 _ (List.getElem_mem hi)
   have e3:((i:Int)<(ms.length:Int)):=by omega
   simp only[apL,jC,jD,i_pBerthOk.d1,C.I_i,C.L_l,jW,jY,getD_map' sE hi,←sAt_get hi,w1 hi hl,e3,decide_true,jR,jX]
   simp only[sE,jC,i_pMark_eq _ hsz,call3,jI,C.S_s,jD,C.B_b,mapN_get,Bool.not_not,markAt]
   cases hok:mkOk (sAt ms i) with
   |false=>simp
   |true=>
    cases hdu:dupN ms (mkNm (sAt ms i)) i with
    |false=>simp
    |true=>
     rcases Nat.eq_zero_or_pos i with h0|h0
     ·subst h0;simp[mapN]
     ·have hi1:i-1<ms.length:=by omega
      have hw:w64 ((i:Int)-1)=((i-1:Nat):Int):=by rw[w64_of (by omega) (by simp only[big] at hl;omega)];omega
      have e1:((i:Int)>0):=by omega
      have e2:(((i-1:Nat):Int)<(ms.length:Int)):=by omega
      have e4:(i==0)=false:=by simp;omega
      simp only[hw,jY,getD_map' sE hi1,←sAt_get hi1,e1,e2,e4,decide_true,jR,jX,sE,jC,C.S_s,prev_not,Bool.false_or,jZ,ja,jS,Bool.true_and,Bool.and_true]
      cases sLt (sAt ms (i-1)) (sAt ms i)<;>simp[mapN])
  (by simp[i_pBerthOk.d1]) ms.length 0 rfl
 have h:=h (by have:=hz.1;simp only[big];omega)
 simpa [mapN] using h
end
def berthOk (b:Bt):Bool:=nameOk b.name&&(nameOk b.zone&&(marksOk b.marks&&(within b.room 0 1000&&within b.hold 0 1000)))
theorem s_l2BerthOk_eq (b:Bt) (hz:b.Sz 1048576):s_l2BerthOk b.e=some [.b (berthOk b)]:=by
 simp only[s_l2BerthOk,s_l2BerthOk.d1,Bt.e,apL,jC,jD,s_l1NameOk_eq _ hz.1,s_l1NameOk_eq _ hz.2.1,s_l2MarksOk_eq hz.2.2,s_l1In_eq,call1,jI,C.B_b,berthOk]
 cases nameOk b.name<;>cases nameOk b.zone<;>cases marksOk b.marks<;>cases within b.room 0 1000<;>simp
theorem i_pBerthOk_eq (b:Bt) (hz:b.Sz 1048576):i_pBerthOk b.e=some [.b (berthOk b)]:=by
 have hm:=i_marks (ms:=b.marks) hz.2.2 b.name b.zone b.room b.hold b.shut
 simp only[i_pBerthOk,i_pBerthOk.d3,Bt.e,apL,jC,jD,i_pName_eq _ hz.1,i_pName_eq _ hz.2.1,i_within_eq,call1,jI,C.B_b,C.L_l,jW,nils,hm,berthOk,marksOk]
 by_cases h10:(b.marks.length:Int)>10
 ·have:¬b.marks.length≤10:=by omega
  simp only[h10,this,decide_true,decide_false]
  cases nameOk b.name<;>cases nameOk b.zone<;>simp
 ·have:b.marks.length≤10:=by omega
  simp only[h10,this,decide_true,decide_false]
  cases nameOk b.name<;>cases nameOk b.zone<;>cases within b.room 0 1000<;>cases within b.hold 0 1000<;>cases allFrom (markAt b.marks) 0 b.marks.length<;>simp[i_pBerthOk.d2]
end Go.Ev
namespace Go.Ev
def selOk (s:Str):Bool:=(pp s).code==0
def likeOk (x:Lk):Bool:=selOk x.sel&&within x.w (-9) 9
def noneOr (s:Str):Bool:=sEq s (mkS [])||nameOk s
def copyOk (c:Cp):Bool:=
 nameOk c.name&&(within c.rank 0 100&&(within c.born 0 1000000&&(within c.room 0 1000&&(within c.hold 0 1000&&(decide (c.likes.length≤5)&&(within c.apart 0 2&&(noneOr c.near&&(noneOr c.fixed&&(selOk c.sel&&c.likes.all likeOk)))))))))
theorem s_l2SelectOk_eq (s:Str) (hl:s.size≤1048576):s_l2SelectOk [.s s]=some [.b (selOk s)]:=by
 simp only[s_l2SelectOk,s_l2SelectOk.d1,apL,jC,s_PilotParse_eq s hl,call2,jI,jD,C.I_i,jV,selOk]
 have:(((pp s).code:Int)==0)=((pp s).code==0):=by
  rw[Bool.eq_iff_iff,beq_iff_eq,beq_iff_eq];omega
 rw[this]
def likeP (l:List Lk) (i:Nat):Bool:=match l[i]? with|some x=>likeOk x|none=>true
theorem likeP_all (l:List Lk):allFrom (likeP l) 0 l.length=l.all likeOk:=by
 rw[Bool.eq_iff_iff,allFrom_iff,List.all_eq_true]
 constructor
 ·intro h x hx
  obtain ⟨i,hi,rfl⟩:=List.getElem_of_mem hx
  have:=h i (Nat.zero_le _) (by omega)
  simpa [likeP,hi] using this
 ·intro h i _ hi
  have hi:i<l.length:=by omega
  simpa [likeP,hi] using h _ (List.getElem_mem hi)
theorem s_likes (c:Cp) (hz:c.Sz 1048576) (K:List C→R):bindBlk 0 (lim (ap13 s_l2CopyOk.d1) ([.i 0]++c.e)) K=bif c.likes.all likeOk then K [] else some (.ret [.b false]):=by
 have hl:c.likes.length<big:=by have:=hz.2.2.2.2.2.2.1;simp only[big];omega
 have h:=chk_loop (body:=ap13 s_l2CopyOk.d1) (S:=fun i=>[.i (i:Nat)]++c.e) (p:=likeP c.likes) (n:=c.likes.length) (b:=0) (ys:=[]) (r:=[.b false])
  (fun i hi=>by
   have hsz:=hz.2.2.2.2.2.2.2 _ (List.getElem_mem hi)
   have e3:((i:Int)<(c.likes.length:Int)):=by omega
   have hp:likeP c.likes i=likeOk c.likes[i]:=by simp[likeP,hi]
   simp only[Cp.e,jA,jB,apL,jC,jD,s_l2CopyOk.d1,C.I_i,C.L_l,jW,jY,getD_map' Lk.e hi,w1 hi hl,e3,decide_true,jR,jX,hp,likeOk]
   simp only[Lk.e,jC,jD,s_l2SelectOk_eq _ hsz,s_l1In_eq,call1,jI,C.B_b]
   cases selOk c.likes[i].sel<;>cases within c.likes[i].w (-9) 9<;>simp)
  (by simp[s_l2CopyOk.d1,Cp.e]) c.likes.length 0 rfl
 simp only[Int.natCast_zero] at h
 rw[h,likeP_all]
 cases c.likes.all likeOk<;>simp
theorem s_l2CopyOk_eq (c:Cp) (hz:c.Sz 1048576):s_l2CopyOk c.e=some [.b (nameOk c.svc&&copyOk c)]:=by
 obtain ⟨z1,z2,z3,z4,z5,z6,z7,z8⟩:=hz
 have hlp:=s_likes c ⟨z1,z2,z3,z4,z5,z6,z7,z8⟩ (fun xs=>s_l2CopyOk.d2)
 simp only[Cp.e,jA,jB] at hlp
 have q1:(c.near.toList==(bs #[]).toList)=sEq c.near (mkS []):=rfl
 have q2:(c.fixed.toList==(bs #[]).toList)=sEq c.fixed (mkS []):=rfl
 simp only[s_l2CopyOk,s_l2CopyOk.d4,Cp.e,apL,jC,jD,s_l1NameOk_eq _ z1,s_l1NameOk_eq _ z2,s_l1NameOk_eq _ z4,s_l1NameOk_eq _ z5,s_l1In_eq,s_l2SelectOk_eq _ z3,call1,jI,C.B_b,C.L_l,C.S_s,jW,copyOk,noneOr,q1,q2]
 have e5:decide ((c.likes.length:Int)>5)=!decide (c.likes.length≤5):=by
  by_cases h:c.likes.length≤5
  ·have:¬((c.likes.length:Int)>5):=by omega
   simp[h,this]
  ·have:((c.likes.length:Int)>5):=by omega
   simp[h,this]
 rw[e5]
 cases nameOk c.name with
 |false=>simp
 |true=>
 cases nameOk c.svc with
 |false=>simp
 |true=>
 cases within c.rank 0 100 with
 |false=>simp
 |true=>
 cases within c.born 0 1000000 with
 |false=>simp
 |true=>
 cases within c.room 0 1000 with
 |false=>simp
 |true=>
 cases within c.hold 0 1000 with
 |false=>simp
 |true=>
 simp only[jZ,ja,jR,jS,Bool.true_and]
 cases selOk c.sel with
 |false=>simp[s_l2CopyOk.d3]
 |true=>
 cases decide (c.likes.length≤5) with
 |false=>simp[s_l2CopyOk.d3]
 |true=>
 cases within c.apart 0 2 with
 |false=>simp[s_l2CopyOk.d3]
 |true=>
 simp only[jZ,ja,jR,jS,Bool.true_and]
 cases sEq c.near (mkS [])<;>cases nameOk c.near<;>cases sEq c.fixed (mkS [])<;>cases nameOk c.fixed<;>simp[s_l2CopyOk.d3,hlp]<;>cases c.likes.all likeOk<;>simp[s_l2CopyOk.d2]
theorem i_likes (l:List Lk) (hz:l.length≤1048576∧∀x,x∈l→x.sel.size≤1048576) (K:List C→R):bindBlk 0 (lim (ap3 i_pCopyOk.d1) [.l (l.map Lk.e),.i (l.length:Nat),.i 0]) K=bif l.all likeOk then K [] else some (.ret [.b false]):=by
 have hl:l.length<big:=by have:=hz.1;simp only[big];omega
 have h:=chk_loop (body:=ap3 i_pCopyOk.d1) (S:=fun i=>[.l (l.map Lk.e),.i (l.length:Nat),.i (i:Nat)]) (p:=likeP l) (n:=l.length) (b:=0) (ys:=[]) (r:=[.b false])
  (fun i hi=>by
   have hsz:=hz.2 _ (List.getElem_mem hi)
   have e3:((i:Int)<(l.length:Int)):=by omega
   have hp:likeP l i=likeOk l[i]:=by simp[likeP,hi]
   have hc:(((pp l[i].sel).code:Int) !=0)=!selOk l[i].sel:=by
    unfold selOk bne
    congr 1
    rw[Bool.eq_iff_iff,beq_iff_eq,beq_iff_eq];omega
   simp only[apL,jC,jD,i_pCopyOk.d1,C.I_i,C.L_l,jW,jY,getD_map' Lk.e hi,w1 hi hl,e3,decide_true,jR,jX,hp,likeOk]
   simp only[Lk.e,jC,jD,i_pParse_eq _ hsz,i_within_eq,call1,call2,jI,C.B_b,C.I_i,hc]
   cases selOk l[i].sel<;>cases within l[i].w (-9) 9<;>simp)
  (by simp[i_pCopyOk.d1]) l.length 0 rfl
 simp only[Int.natCast_zero] at h
 rw[h,likeP_all]
 cases l.all likeOk<;>simp
theorem i_pCopyOk_eq (c:Cp) (hz:c.Sz 1048576):i_pCopyOk c.e=some [.b (copyOk c)]:=by
 obtain ⟨z1,z2,z3,z4,z5,z6,z7⟩:=hz
 have hlp:=i_likes c.likes z7 (fun xs=>i_pCopyOk.d2)
 have q1:(c.near.toList==(bs #[]).toList)=sEq c.near (mkS []):=rfl
 have q2:(c.fixed.toList==(bs #[]).toList)=sEq c.fixed (mkS []):=rfl
 have hc:(((pp c.sel).code:Int) !=0)=!selOk c.sel:=by
  unfold selOk bne
  congr 1
  rw[Bool.eq_iff_iff,beq_iff_eq,beq_iff_eq];omega
 simp only[i_pCopyOk,i_pCopyOk.d4,Cp.e,apL,jC,jD,i_pName_eq _ z1,i_pName_eq _ z4,i_pName_eq _ z5,i_within_eq,call1,jI,C.B_b,C.L_l,C.S_s,jW,copyOk,noneOr,q1,q2]
 have e5:decide ((c.likes.length:Int)>5)=!decide (c.likes.length≤5):=by
  by_cases h:c.likes.length≤5
  ·have:¬((c.likes.length:Int)>5):=by omega
   simp[h,this]
  ·have:((c.likes.length:Int)>5):=by omega
   simp[h,this]
 rw[e5]
 have hd3:∀b:Bool,i_pCopyOk.d3 (.b b) (.s c.name) (.s c.svc) (.i c.rank) (.i c.born) (.i c.room) (.i c.hold) (.s c.sel) (.l (c.likes.map Lk.e)) (.i c.apart) (.s c.near) (.s c.fixed) (.s c.at_)=bif b then some (.ret [.b false]) else bif selOk c.sel&&c.likes.all likeOk then some (.ret [.b true]) else some (.ret [.b false]):=fun b=>by
  simp only[i_pCopyOk.d3,C.B_b,i_pParse_eq _ z3,call2,jI,jC,jD,C.I_i,hc,C.L_l,jW,hlp]
  cases b<;>cases selOk c.sel<;>cases c.likes.all likeOk<;>simp[i_pCopyOk.d2]
 cases nameOk c.name with
 |false=>simp[hd3]
 |true=>
 cases within c.rank 0 100 with
 |false=>simp[hd3]
 |true=>
 cases within c.born 0 1000000 with
 |false=>simp[hd3]
 |true=>
 cases within c.room 0 1000 with
 |false=>simp[hd3]
 |true=>
 cases within c.hold 0 1000 with
 |false=>simp[hd3]
 |true=>
 simp only[jZ,ja,jR,jS,Bool.true_and]
 cases decide (c.likes.length≤5) with
 |false=>simp[hd3]
 |true=>
 cases within c.apart 0 2 with
 |false=>simp[hd3]
 |true=>
 simp only[jZ,ja,jR,jS,Bool.true_and]
 cases sEq c.near (mkS [])<;>cases nameOk c.near<;>cases sEq c.fixed (mkS [])<;>cases nameOk c.fixed<;>simp[hd3]<;>cases selOk c.sel&&c.likes.all likeOk<;>simp
def usedR (l:List Cp) (nm:Str):Nat→Int
 |0=>0
 |i+1=>match l[i]? with
  |some c=>bif sEq c.at_ nm then w64 (usedR l nm i+c.room) else usedR l nm i
  |none=>usedR l nm i
def usedH (l:List Cp) (nm:Str):Nat→Int
 |0=>0
 |i+1=>match l[i]? with
  |some c=>bif sEq c.at_ nm then w64 (usedH l nm i+c.hold) else usedH l nm i
  |none=>usedH l nm i
def used (f:Fl) (nm:Str):Int×Int:=bif sEq nm (mkS [])||decide (bIx f nm<0) then (0,0) else (usedR f.cps nm f.cps.length,usedH f.cps nm f.cps.length)
theorem s_PilotUsed_eq (f:Fl) (nm:Str) (hz:f.Sz 1048576):s_PilotUsed (f.e++[.s nm])=some [.i (used f nm).1,.i (used f nm).2]:=by
 have hl:f.cps.length<big:=by have:=hz.2.2.1;simp only[big];omega
 have hb:=s_l2Berth_eq f nm hz.1.1
 have q1:(nm.toList==(bs #[]).toList)=sEq nm (mkS []):=rfl
 simp only[Fl.e,jA,jB] at hb
 simp only[s_PilotUsed,s_PilotUsed.d4,Fl.e,jA,jB,apL,jC,jD,hb,call1,jI,C.I_i,used]
 cases hlt:decide (bIx f nm<0) with
 |true=>simp
 |false=>
  simp only[jS,Bool.or_false]
  cases he:sEq nm (mkS []) with
  |true=>
   have h:=run_loop (body:=ap8 s_PilotUsed.d2) (S:=fun i=>[.s nm,.i 0,.i 0,.i (i:Nat),.b f.pack,.l (f.bts.map Bt.e),.l (f.svs.map Sv.e),.l (f.cps.map Cp.e)]) (n:=f.cps.length) (b:=0) (ys:=[.i 0,.i 0])
    (fun i hi=>by
     have e3:((i:Int)<(f.cps.length:Int)):=by omega
     simp only[apL,jC,jD,s_PilotUsed.d2,s_PilotUsed.d1,C.I_i,C.L_l,C.S_s,jW,q1,he,e3,decide_true,jR,jZ,jS,jJ,C.B_b,w1 hi hl])
    (by simp[s_PilotUsed.d2]) f.cps.length 0 rfl
   simp only[Int.natCast_zero] at h
   rw[h]
   simp[s_PilotUsed.d3]
  |false=>
   have h:=run_loop (body:=ap8 s_PilotUsed.d2) (S:=fun i=>[.s nm,.i (usedR f.cps nm i),.i (usedH f.cps nm i),.i (i:Nat),.b f.pack,.l (f.bts.map Bt.e),.l (f.svs.map Sv.e),.l (f.cps.map Cp.e)]) (n:=f.cps.length) (b:=0) (ys:=[.i (usedR f.cps nm f.cps.length),.i (usedH f.cps nm f.cps.length)])
    (fun i hi=>by
     have e3:((i:Int)<(f.cps.length:Int)):=by omega
     simp only[apL,jC,jD,s_PilotUsed.d2,s_PilotUsed.d1,C.I_i,C.L_l,C.S_s,jW,jY,getD_map' Cp.e hi,q1,he,e3,decide_true,jR,ja,jX,jJ,C.B_b,w1 hi hl,usedR,usedH,List.getElem?_eq_getElem hi]
     simp only[Cp.e,jC,jD,C.S_s,C.I_i]
     show (bif sEq f.cps[i].at_ nm then _ else _)=_
     cases sEq f.cps[i].at_ nm<;>simp)
    (by simp[s_PilotUsed.d2]) f.cps.length 0 rfl
   simp only[Int.natCast_zero,usedR,usedH] at h
   rw[h]
   simp[s_PilotUsed.d3]
theorem i_PilotUsed_eq (f:Fl) (nm:Str) (hz:f.Sz 1048576):i_PilotUsed (f.e++[.s nm])=some [.i (used f nm).1,.i (used f nm).2]:=by
 have hl:f.cps.length<big:=by have:=hz.2.2.1;simp only[big];omega
 have hb:=i_pBerthAt_eq f nm hz.1.1
 have q1:(nm.toList==(bs #[]).toList)=sEq nm (mkS []):=rfl
 simp only[Fl.e,jA,jB] at hb
 simp only[i_PilotUsed,i_PilotUsed.d3,Fl.e,jA,jB,apL,jC,jD,C.S_s,q1,hb,call1,jI,C.I_i,C.L_l,jW,used]
 cases he:sEq nm (mkS []) with
 |true=>simp
 |false=>
  simp only[ja,jR,Bool.false_or]
  cases hlt:decide (bIx f nm<0) with
  |true=>simp
  |false=>
   have h:=run_loop (body:=ap6 i_PilotUsed.d1) (S:=fun i=>[.s nm,.i (usedR f.cps nm i),.i (usedH f.cps nm i),.l (f.cps.map Cp.e),.i (f.cps.length:Nat),.i (i:Nat)]) (n:=f.cps.length) (b:=0) (ys:=[.i (usedR f.cps nm f.cps.length),.i (usedH f.cps nm f.cps.length)])
    (fun i hi=>by
     have e3:((i:Int)<(f.cps.length:Int)):=by omega
     simp only[apL,jC,jD,i_PilotUsed.d1,C.I_i,C.L_l,C.S_s,jW,jY,getD_map' Cp.e hi,e3,decide_true,jR,jX,w1 hi hl,usedR,usedH,List.getElem?_eq_getElem hi]
     simp only[Cp.e,jC,jD,C.S_s,C.I_i]
     show (bif sEq f.cps[i].at_ nm then _ else _)=_
     cases sEq f.cps[i].at_ nm<;>simp)
    (by simp[i_PilotUsed.d1]) f.cps.length 0 rfl
   simp only[Int.natCast_zero,usedR,usedH] at h
   rw[h]
   simp[i_PilotUsed.d2]
end Go.Ev
namespace Go.Ev
theorem findIx_any {α:Type} (p:α→Bool):∀(l:List α) (n:Nat),decide (findIx p l n<0)=!l.any p
 |[],n=>by simp[findIx]
 |x::r,n=>by
  cases hx:p x with
  |true=>
   have:¬((n:Int)<0):=by omega
   simp[findIx,hx,this]
  |false=>simp[findIx,hx,findIx_any p r (n+1)]
def standC (l:List Cp) (nm:Str):Nat→Nat
 |0=>0
 |i+1=>match l[i]? with
  |some c=>bif sEq c.at_ nm then standC l nm i+1 else standC l nm i
  |none=>standC l nm i
theorem standC_le (l:List Cp) (nm:Str):∀i,standC l nm i≤i
 |0=>Nat.le_refl _
 |i+1=>by
  have:=standC_le l nm i
  simp only[standC]
  split
  ·rename_i c _
   cases sEq c.at_ nm<;>simp<;>omega
  ·omega
theorem s_l2Stand_eq (f:Fl) (nm:Str) (hz:f.Sz 1048576):s_l2Stand (f.e++[.s nm])=some [.i (standC f.cps nm f.cps.length:Nat)]:=by
 have hl:f.cps.length<big:=by have:=hz.2.2.1;simp only[big];omega
 have h:=run_loop (body:=ap7 s_l2Stand.d1) (S:=fun i=>[.s nm,.i (standC f.cps nm i:Nat),.i (i:Nat),.b f.pack,.l (f.bts.map Bt.e),.l (f.svs.map Sv.e),.l (f.cps.map Cp.e)]) (n:=f.cps.length) (b:=0) (ys:=[.i (standC f.cps nm f.cps.length:Nat)])
  (fun i hi=>by
   have e3:((i:Int)<(f.cps.length:Int)):=by omega
   have hw:=w64n (n:=standC f.cps nm i) (by have:=standC_le f.cps nm i;omega)
   simp only[apL,jC,jD,s_l2Stand.d1,C.I_i,C.L_l,C.S_s,jW,jY,getD_map' Cp.e hi,e3,decide_true,jR,jX,w1 hi hl,hw,standC,List.getElem?_eq_getElem hi]
   simp only[Cp.e,jC,jD,C.S_s]
   show (bif sEq f.cps[i].at_ nm then _ else _)=_
   cases sEq f.cps[i].at_ nm<;>simp)
  (by simp[s_l2Stand.d1]) f.cps.length 0 rfl
 simp only[Int.natCast_zero,standC] at h
 simp only[s_l2Stand,s_l2Stand.d3,Fl.e,jA,jB,apL,jC,jD]
 rw[h]
 simp[s_l2Stand.d2]
def svA (f:Fl) (i:Nat):Bool:=match f.svs[i]? with
 |some s=>nameOk s.name&&((i==0||match f.svs[i-1]? with|some q=>sLt q.name s.name|none=>true)&&within s.spare 0 60)
 |none=>true
def cpA (f:Fl) (i:Nat):Bool:=match f.cps[i]? with
 |some c=>copyOk c&&(f.svs.any (fun s=>sEq s.name c.svc)&&((i==0||match f.cps[i-1]? with|some q=>sLt q.name c.name|none=>true)&&(sEq c.at_ (mkS [])||f.bts.any (fun b=>sEq b.name c.at_))))
 |none=>true
def btA (f:Fl) (i:Nat):Bool:=match f.bts[i]? with
 |some b=>berthOk b&&(i==0||match f.bts[i-1]? with|some q=>sLt q.name b.name|none=>true)
 |none=>true
def fitA (f:Fl) (i:Nat):Bool:=match f.bts[i]? with
 |some b=>decide ((used f b.name).1≤b.room)&&(decide ((used f b.name).2≤b.hold)&&decide (standC f.cps b.name f.cps.length≤10))
 |none=>true
def validF (f:Fl):Bool:=decide (f.bts.length≤12)&&(decide (f.svs.length≤30)&&(decide (f.cps.length≤60)&&(allFrom (svA f) 0 f.svs.length&&(allFrom (cpA f) 0 f.cps.length&&(allFrom (btA f) 0 f.bts.length&&allFrom (fitA f) 0 f.bts.length)))))
section
variable {f:Fl} (hz:f.Sz 1048576)
include hz
theorem s_V1 (K:List C→R):bindBlk 0 (lim (ap5 s_PilotValid.d1) ([.i 0]++f.e)) K=bif allFrom (svA f) 0 f.svs.length then K f.e else some (.ret [.b false]):=by
 have hl:f.svs.length<big:=by have:=hz.2.1.1;simp only[big];omega
 have h:=chk_loop (body:=ap5 s_PilotValid.d1) (S:=fun i=>[.i (i:Nat)]++f.e) (p:=svA f) (n:=f.svs.length) (b:=0) (ys:=f.e) (r:=[.b false])
  (fun i hi=>by
   have hsz:=hz.2.1.2 _ (List.getElem_mem hi)
   have e3:((i:Int)<(f.svs.length:Int)):=by omega
   have hp:svA f i=(nameOk f.svs[i].name&&((i==0||match f.svs[i-1]? with|some q=>sLt q.name f.svs[i].name|none=>true)&&within f.svs[i].spare 0 60)):=by simp[svA,hi]
   simp only[Fl.e,jA,jB,apL,jC,jD,s_PilotValid.d1,C.I_i,C.L_l,jW,jY,getD_map' Sv.e hi,w1 hi hl,e3,decide_true,jR,jX,hp]
   simp only[Sv.e,jC,jD,s_l1NameOk_eq _ hsz,s_l1In_eq,call1,jI,C.B_b,C.S_s]
   cases hn:nameOk f.svs[i].name with
   |false=>simp
   |true=>
    rcases Nat.eq_zero_or_pos i with h0|h0
    ·subst h0
     cases within f.svs[0].spare 0 60<;>simp
    ·have hi1:i-1<f.svs.length:=by omega
     have hw:w64 ((i:Int)-1)=((i-1:Nat):Int):=by rw[w64_of (by omega) (by simp only[big] at hl;omega)];omega
     have e1:((i:Int)>0):=by omega
     have e2:(((i-1:Nat):Int)<(f.svs.length:Int)):=by omega
     have e4:(i==0)=false:=by simp;omega
     simp only[hw,jY,getD_map' Sv.e hi1,e1,e2,e4,decide_true,jR,jX,List.getElem?_eq_getElem hi1,Bool.false_or,jZ,ja,Bool.true_and]
     simp only[Sv.e,jC,C.S_s]
     show (bif (!(!sLt f.svs[i-1].name f.svs[i].name)) then _ else _)=_
     cases sLt f.svs[i-1].name f.svs[i].name<;>cases within f.svs[i].spare 0 60<;>simp)
  (by simp[s_PilotValid.d1,Fl.e]) f.svs.length 0 rfl
 simp only[Int.natCast_zero] at h
 rw[h]
 cases allFrom (svA f) 0 f.svs.length<;>simp
theorem s_V2 (hn:∀s,s∈f.svs→nameOk s.name=true) (K:List C→R):bindBlk 2 (lim (ap5 s_PilotValid.d3) ([.i 0]++f.e)) K=bif allFrom (cpA f) 0 f.cps.length then K f.e else some (.ret [.b false]):=by
 have hl:f.cps.length<big:=by have:=hz.2.2.1;simp only[big];omega
 have h:=chk_loop (body:=ap5 s_PilotValid.d3) (S:=fun i=>[.i (i:Nat)]++f.e) (p:=cpA f) (n:=f.cps.length) (b:=2) (ys:=f.e) (r:=[.b false])
  (fun i hi=>by
   have hsz:=hz.2.2.2 _ (List.getElem_mem hi)
   have e3:((i:Int)<(f.cps.length:Int)):=by omega
   have hp:cpA f i=(copyOk f.cps[i]&&(f.svs.any (fun s=>sEq s.name f.cps[i].svc)&&((i==0||match f.cps[i-1]? with|some q=>sLt q.name f.cps[i].name|none=>true)&&(sEq f.cps[i].at_ (mkS [])||f.bts.any (fun b=>sEq b.name f.cps[i].at_))))):=by simp[cpA,hi]
   have hsv:=s_l2Service_eq f f.cps[i].svc hz.2.1.1
   have hbt:=s_l2Berth_eq f f.cps[i].at_ hz.1.1
   have hco:=s_l2CopyOk_eq f.cps[i] hsz
   have q1:(f.cps[i].at_.toList==(bs #[]).toList)=sEq f.cps[i].at_ (mkS []):=rfl
   have hs1:decide (sIx f f.cps[i].svc<0)=!f.svs.any (fun s=>sEq s.name f.cps[i].svc):=findIx_any _ _ _
   have hb1:decide (bIx f f.cps[i].at_<0)=!f.bts.any (fun b=>sEq b.name f.cps[i].at_):=findIx_any _ _ _
   have hany:f.svs.any (fun s=>sEq s.name f.cps[i].svc)=true→nameOk f.cps[i].svc=true:=fun h=>by
    obtain ⟨s,h1,h2⟩:=List.any_eq_true.1 h
    rw[←(sEq_iff _ _).1 h2];exact hn s h1
   simp only[Fl.e,jA,jB] at hsv hbt
   simp only[Cp.e] at hco
   simp only[Fl.e,jA,jB,apL,jC,jD,s_PilotValid.d3,C.I_i,C.L_l,jW,jY,getD_map' Cp.e hi,e3,decide_true,jR,jX,hp]
   simp only[Cp.e,jC,jD,hco,hsv,hbt,call1,jI,C.B_b,C.S_s,C.I_i,q1,hs1,hb1]
   have hd2:∀b:Bool,s_PilotValid.d2 (.i (i:Nat)) (.b b) (.b f.pack) (.l (f.bts.map Bt.e)) (.l (f.svs.map Sv.e)) (.l (f.cps.map Cp.e))=bif b then some (.ret [.b false]) else some (.again [.i (i+1:Nat),.b f.pack,.l (f.bts.map Bt.e),.l (f.svs.map Sv.e),.l (f.cps.map Cp.e)]):=fun b=>by
    simp only[s_PilotValid.d2,C.B_b,C.I_i,w1 hi hl]
   cases hany2:f.svs.any (fun s=>sEq s.name f.cps[i].svc) with
   |false=>
    have:∀a b:Bool,(a&&(false&&b))=false:=by decide
    rw[this]
    cases nameOk f.cps[i].svc&&copyOk f.cps[i] with
    |false=>simp[hd2]
    |true=>
     rcases Nat.eq_zero_or_pos i with h0|h0
     ·subst h0
      simp only[Int.natCast_zero] at hd2
      simp[hd2]
     ·have hi1:i-1<f.cps.length:=by omega
      have hw:w64 ((i:Int)-1)=((i-1:Nat):Int):=by rw[w64_of (by omega) (by simp only[big] at hl;omega)];omega
      have e1:((i:Int)>0):=by omega
      have e2:(((i-1:Nat):Int)<(f.cps.length:Int)):=by omega
      simp only[hw,jY,getD_map' Cp.e hi1,e1,e2,decide_true,jR,jX,jZ,ja,jS]
      cases (Op.bytesLess ((f.cps[i-1].e.getD 0 .nil).S).toList (f.cps[i].name).toList)<;>simp[hd2]
   |true=>
    rw[hany hany2,Bool.true_and,Bool.true_and]
    cases copyOk f.cps[i] with
    |false=>simp[hd2]
    |true=>
     rcases Nat.eq_zero_or_pos i with h0|h0
     ·subst h0
      simp only[Int.natCast_zero] at hd2
      cases sEq f.cps[0].at_ (mkS [])<;>cases f.bts.any (fun b=>sEq b.name f.cps[0].at_)<;>simp[hd2]
     ·have hi1:i-1<f.cps.length:=by omega
      have hw:w64 ((i:Int)-1)=((i-1:Nat):Int):=by rw[w64_of (by omega) (by simp only[big] at hl;omega)];omega
      have e1:((i:Int)>0):=by omega
      have e2:(((i-1:Nat):Int)<(f.cps.length:Int)):=by omega
      have e4:(i==0)=false:=by simp;omega
      simp only[hw,jY,getD_map' Cp.e hi1,e1,e2,e4,decide_true,jR,jX,List.getElem?_eq_getElem hi1,Bool.false_or,jZ,ja,jS,Bool.true_and]
      have hn0:(f.cps[i-1].e.getD 0 .nil).S=f.cps[i-1].name:=rfl
      rw[hn0]
      show bindNrm (bif (!(!sLt f.cps[i-1].name f.cps[i].name)) then _ else _) _=_
      cases sLt f.cps[i-1].name f.cps[i].name<;>cases sEq f.cps[i].at_ (mkS [])<;>cases f.bts.any (fun b=>sEq b.name f.cps[i].at_)<;>simp[hd2])
  (by simp[s_PilotValid.d3,Fl.e]) f.cps.length 0 rfl
 simp only[Int.natCast_zero] at h
 rw[h]
 cases allFrom (cpA f) 0 f.cps.length<;>simp
theorem s_V3 (K:List C→R):bindBlk 4 (lim (ap5 s_PilotValid.d4) ([.i 0]++f.e)) K=bif allFrom (fun i=>btA f i&&fitA f i) 0 f.bts.length then K [] else some (.ret [.b false]):=by
 have hl:f.bts.length<big:=by have:=hz.1.1;simp only[big];omega
 have h:=chk_loop (body:=ap5 s_PilotValid.d4) (S:=fun i=>[.i (i:Nat)]++f.e) (p:=fun i=>btA f i&&fitA f i) (n:=f.bts.length) (b:=4) (ys:=[]) (r:=[.b false])
  (fun i hi=>by
   have hsz:=hz.1.2 _ (List.getElem_mem hi)
   have e3:((i:Int)<(f.bts.length:Int)):=by omega
   have hp:btA f i=(berthOk f.bts[i]&&(i==0||match f.bts[i-1]? with|some q=>sLt q.name f.bts[i].name|none=>true)):=by simp[btA,hi]
   have hq:fitA f i=(decide ((used f f.bts[i].name).1≤f.bts[i].room)&&(decide ((used f f.bts[i].name).2≤f.bts[i].hold)&&decide (standC f.cps f.bts[i].name f.cps.length≤10))):=by simp[fitA,hi]
   have hu:=s_PilotUsed_eq f f.bts[i].name hz
   have hs:=s_l2Stand_eq f f.bts[i].name hz
   have hb:=s_l2BerthOk_eq f.bts[i] hsz
   have g1:decide ((used f f.bts[i].name).1>f.bts[i].room)=!decide ((used f f.bts[i].name).1≤f.bts[i].room):=by rw[←decide_not,decide_eq_decide];omega
   have g2:decide ((used f f.bts[i].name).2>f.bts[i].hold)=!decide ((used f f.bts[i].name).2≤f.bts[i].hold):=by rw[←decide_not,decide_eq_decide];omega
   have g3:decide ((standC f.cps f.bts[i].name f.cps.length:Int)>10)=!decide (standC f.cps f.bts[i].name f.cps.length≤10):=by rw[←decide_not,decide_eq_decide];omega
   simp only[Fl.e,jA,jB] at hu hs
   simp only[Bt.e] at hb
   simp only[Fl.e,jA,jB,apL,jC,jD,s_PilotValid.d4,C.I_i,C.L_l,jW,jY,getD_map' Bt.e hi,e3,decide_true,jR,jX,w1 hi hl]
   simp only[Bt.e,jC,jD,hu,hs,hb,call1,call2,jI,C.B_b,C.S_s,C.I_i,g1,g2,g3,hp,hq,Bool.not_not]
   cases berthOk f.bts[i] with
   |false=>simp
   |true=>
    rcases Nat.eq_zero_or_pos i with h0|h0
    ·subst h0
     cases decide ((used f f.bts[0].name).1≤f.bts[0].room)<;>cases decide ((used f f.bts[0].name).2≤f.bts[0].hold)<;>cases decide (standC f.cps f.bts[0].name f.cps.length≤10)<;>simp
    ·have hi1:i-1<f.bts.length:=by omega
     have hw:w64 ((i:Int)-1)=((i-1:Nat):Int):=by rw[w64_of (by omega) (by simp only[big] at hl;omega)];omega
     have e1:((i:Int)>0):=by omega
     have e2:(((i-1:Nat):Int)<(f.bts.length:Int)):=by omega
     have e4:(i==0)=false:=by simp;omega
     simp only[hw,jY,getD_map' Bt.e hi1,e1,e2,e4,decide_true,jR,jX,List.getElem?_eq_getElem hi1,Bool.false_or,jZ,ja,jS,Bool.true_and]
     have hn0:(f.bts[i-1].e.getD 0 .nil).S=f.bts[i-1].name:=rfl
     rw[hn0]
     show (bif sLt f.bts[i-1].name f.bts[i].name then _ else _)=_
     cases sLt f.bts[i-1].name f.bts[i].name<;>cases decide ((used f f.bts[i].name).1≤f.bts[i].room)<;>cases decide ((used f f.bts[i].name).2≤f.bts[i].hold)<;>cases decide (standC f.cps f.bts[i].name f.cps.length≤10)<;>simp)
  (by simp[s_PilotValid.d4,Fl.e]) f.bts.length 0 rfl
 simp only[Int.natCast_zero] at h
 rw[h]
 cases allFrom (fun i=>btA f i&&fitA f i) 0 f.bts.length<;>simp
omit hz in
theorem svs_names (h:allFrom (svA f) 0 f.svs.length=true):∀s,s∈f.svs→nameOk s.name=true:=by
 intro s hs
 obtain ⟨i,hi,rfl⟩:=List.getElem_of_mem hs
 have:=(allFrom_iff _ _ _).1 h i (Nat.zero_le _) (by omega)
 simp only[svA,List.getElem?_eq_getElem hi,Bool.and_eq_true] at this
 exact this.1
omit hz in
theorem allFrom_and (p q:Nat→Bool):∀k i,allFrom (fun i=>p i&&q i) i k=(allFrom p i k&&allFrom q i k)
 |0,i=>rfl
 |k+1,i=>by
  simp only[allFrom,allFrom_and p q k (i+1)]
  cases p i<;>cases q i<;>cases allFrom p (i+1) k<;>simp
theorem s_PilotValid_eq:s_PilotValid f.e=some [.b (validF f)]:=by
 have h1:=s_V1 hz (ap4 s_PilotValid.d7)
 have h3:=s_V3 hz (fun xs=>s_PilotValid.d5)
 simp only[Fl.e,jA,jB] at h1 h3
 have g1:decide ((f.bts.length:Int)>12)=!decide (f.bts.length≤12):=by rw[←decide_not,decide_eq_decide];omega
 have g2:decide ((f.svs.length:Int)>30)=!decide (f.svs.length≤30):=by rw[←decide_not,decide_eq_decide];omega
 have g3:decide ((f.cps.length:Int)>60)=!decide (f.cps.length≤60):=by rw[←decide_not,decide_eq_decide];omega
 simp only[s_PilotValid,s_PilotValid.d8,Fl.e,apL,jC,jD,C.L_l,jW,g1,g2,g3,Bool.not_not,h1,validF]
 cases decide (f.bts.length≤12) with
 |false=>simp
 |true=>
 cases decide (f.svs.length≤30) with
 |false=>simp
 |true=>
 cases decide (f.cps.length≤60) with
 |false=>simp
 |true=>
 cases hs:allFrom (svA f) 0 f.svs.length with
 |false=>simp
 |true=>
  have h2:=s_V2 hz (svs_names hs) (ap4 s_PilotValid.d6)
  simp only[Fl.e,jA,jB] at h2
  simp only[jR,jZ,jS,Bool.true_and,s_PilotValid.d7,apL,jC,jD,h2]
  cases allFrom (cpA f) 0 f.cps.length with
  |false=>simp
  |true=>
   simp only[jR,Bool.true_and,s_PilotValid.d6,apL,jC,jD,h3,allFrom_and]
   cases allFrom (btA f) 0 f.bts.length<;>cases allFrom (fitA f) 0 f.bts.length<;>simp[s_PilotValid.d5]
end
end Go.Ev
namespace Go.Ev
def mapS (l:List Sv):Nat→List (List C)
 |0=>[]
 |i+1=>match l[i]? with
  |some s=>mset s.name (.b true) (mapS l i)
  |none=>mapS l i
theorem mapS_get (l:List Sv) (nm:Str):∀i,i≤l.length→(mget (.b false) nm (mapS l i)).B=(l.take i).any (fun s=>sEq s.name nm)
 |0,_=>rfl
 |i+1,h=>by
  have hi:i<l.length:=h
  rw[mapS,List.getElem?_eq_getElem hi]
  simp only
  rw[mget_mset,List.take_succ_eq_append_getElem hi,List.any_append,sEq_comm]
  have ih:=mapS_get l nm i (by omega)
  cases hq:sEq l[i].name nm with
  |true=>simp[hq]
  |false=>simp[hq,ih]
def mapC (l:List Cp):Nat→List (List C)
 |0=>[]
 |i+1=>match l[i]? with
  |some c=>mset c.at_ (.i (w64 ((mget (.i 0) c.at_ (mapC l i)).I+1))) (mapC l i)
  |none=>mapC l i
theorem mapC_get (l:List Cp) (hl:l.length<big) (nm:Str):∀i,i≤l.length→mget (.i 0) nm (mapC l i)=.i (standC l nm i:Nat)
 |0,_=>rfl
 |i+1,h=>by
  have hi:i<l.length:=h
  have ih:=mapC_get l hl nm i (by omega)
  have ih2:=mapC_get l hl l[i].at_ i (by omega)
  rw[mapC,standC,List.getElem?_eq_getElem hi]
  simp only
  rw[mget_mset,ih,ih2,sEq_comm]
  have hw:=w64n (n:=standC l l[i].at_ i) (by have:=standC_le l l[i].at_ i;omega)
  cases hq:sEq l[i].at_ nm with
  |true=>
   have:=(sEq_iff _ _).1 hq
   subst this
   simp only[jR,C.I_i,hw]
  |false=>rfl
section
variable {f:Fl} (hz:f.Sz 1048576)
include hz
theorem i_V1 (K:List C→R):bindBlk 0 (lim (ap7 i_PilotValid.d1) ([.l (f.bts.map Bt.e),.i (f.bts.length:Nat),.i 0]++f.e)) K=bif allFrom (btA f) 0 f.bts.length then K f.e else some (.ret [.b false]):=by
 have hl:f.bts.length<big:=by have:=hz.1.1;simp only[big];omega
 have h:=chk_loop (body:=ap7 i_PilotValid.d1) (S:=fun i=>[.l (f.bts.map Bt.e),.i (f.bts.length:Nat),.i (i:Nat)]++f.e) (p:=btA f) (n:=f.bts.length) (b:=0) (ys:=f.e) (r:=[.b false])
  (fun i hi=>by
   have hsz:=hz.1.2 _ (List.getElem_mem hi)
   have e3:((i:Int)<(f.bts.length:Int)):=by omega
   have hp:btA f i=(berthOk f.bts[i]&&(i==0||match f.bts[i-1]? with|some q=>sLt q.name f.bts[i].name|none=>true)):=by simp only[btA,List.getElem?_eq_getElem hi]<;>rfl
   have hb:=i_pBerthOk_eq f.bts[i] hsz
   simp only[Bt.e] at hb
   simp only[Fl.e,jA,jB,apL,jC,jD,i_PilotValid.d1,C.I_i,C.L_l,jW,jY,getD_map' Bt.e hi,e3,decide_true,jR,jX,w1 hi hl]
   simp only[Bt.e,jC,jD,hb,call1,jI,C.B_b,C.S_s,hp]
   cases berthOk f.bts[i] with
   |false=>simp
   |true=>
    rcases Nat.eq_zero_or_pos i with h0|h0
    ·subst h0;simp
    ·have hi1:i-1<f.bts.length:=by omega
     have hw:w64 ((i:Int)-1)=((i-1:Nat):Int):=by rw[w64_of (by omega) (by simp only[big] at hl;omega)];omega
     have e1:((i:Int)>0):=by omega
     have e2:(((i-1:Nat):Int)<(f.bts.length:Int)):=by omega
     have e4:(i==0)=false:=by simp;omega
     have hn0:(f.bts[i-1].e.getD 0 .nil).S=f.bts[i-1].name:=rfl
     simp only[hw,jY,getD_map' Bt.e hi1,e1,e2,e4,decide_true,jR,jX,List.getElem?_eq_getElem hi1,Bool.false_or,jZ,ja,jS,Bool.true_and,hn0,prev_not]
     cases sLt f.bts[i-1].name f.bts[i].name<;>simp)
  (by simp[i_PilotValid.d1,Fl.e]) f.bts.length 0 rfl
 simp only[Int.natCast_zero] at h
 rw[h]
 cases allFrom (btA f) 0 f.bts.length<;>simp
theorem i_V2 (K:List C→R):bindBlk 2 (lim (ap8 i_PilotValid.d2) ([.l (f.svs.map Sv.e),.i (f.svs.length:Nat),.i 0]++f.e++[.l []])) K=bif allFrom (svA f) 0 f.svs.length then K (f.e++[.l (mapS f.svs f.svs.length)]) else some (.ret [.b false]):=by
 have hl:f.svs.length<big:=by have:=hz.2.1.1;simp only[big];omega
 have h:=chk_loop (body:=ap8 i_PilotValid.d2) (S:=fun i=>[.l (f.svs.map Sv.e),.i (f.svs.length:Nat),.i (i:Nat)]++f.e++[.l (mapS f.svs i)]) (p:=svA f) (n:=f.svs.length) (b:=2) (ys:=f.e++[.l (mapS f.svs f.svs.length)]) (r:=[.b false])
  (fun i hi=>by
   have hsz:=hz.2.1.2 _ (List.getElem_mem hi)
   have e3:((i:Int)<(f.svs.length:Int)):=by omega
   have hp:svA f i=(nameOk f.svs[i].name&&((i==0||match f.svs[i-1]? with|some q=>sLt q.name f.svs[i].name|none=>true)&&within f.svs[i].spare 0 60)):=by simp only[svA,List.getElem?_eq_getElem hi]<;>rfl
   simp only[Fl.e,jA,jB,apL,jC,jD,i_PilotValid.d2,C.I_i,C.L_l,jW,jY,getD_map' Sv.e hi,w1 hi hl,e3,decide_true,jR,jX,hp,mapS,List.getElem?_eq_getElem hi]
   simp only[Sv.e,jC,jD,i_pName_eq _ hsz,i_within_eq,call1,jI,C.B_b,C.S_s]
   cases hn:nameOk f.svs[i].name with
   |false=>simp
   |true=>
    cases within f.svs[i].spare 0 60 with
    |false=>simp
    |true=>
     rcases Nat.eq_zero_or_pos i with h0|h0
     ·subst h0;simp
     ·have hi1:i-1<f.svs.length:=by omega
      have hw:w64 ((i:Int)-1)=((i-1:Nat):Int):=by rw[w64_of (by omega) (by simp only[big] at hl;omega)];omega
      have e1:((i:Int)>0):=by omega
      have e2:(((i-1:Nat):Int)<(f.svs.length:Int)):=by omega
      have e4:(i==0)=false:=by simp;omega
      have hn0:(f.svs[i-1].e.getD 0 .nil).S=f.svs[i-1].name:=rfl
      simp only[hw,jY,getD_map' Sv.e hi1,e1,e2,e4,decide_true,jR,jX,List.getElem?_eq_getElem hi1,Bool.false_or,jZ,ja,jS,Bool.true_and,hn0,prev_not]
      cases sLt f.svs[i-1].name f.svs[i].name<;>simp)
  (by simp[i_PilotValid.d2,Fl.e]) f.svs.length 0 rfl
 simp only[Int.natCast_zero,mapS] at h
 rw[h]
 cases allFrom (svA f) 0 f.svs.length<;>simp
theorem i_V3 (K:List C→R):bindBlk 4 (lim (ap9 i_PilotValid.d4) ([.l (f.cps.map Cp.e),.i (f.cps.length:Nat),.i 0]++f.e++[.l (mapS f.svs f.svs.length),.l []])) K=bif allFrom (cpA f) 0 f.cps.length then K (f.e++[.l (mapC f.cps f.cps.length)]) else some (.ret [.b false]):=by
 have hl:f.cps.length<big:=by have:=hz.2.2.1;simp only[big];omega
 have h:=chk_loop (body:=ap9 i_PilotValid.d4) (S:=fun i=>[.l (f.cps.map Cp.e),.i (f.cps.length:Nat),.i (i:Nat)]++f.e++[.l (mapS f.svs f.svs.length),.l (mapC f.cps i)]) (p:=cpA f) (n:=f.cps.length) (b:=4) (ys:=f.e++[.l (mapC f.cps f.cps.length)]) (r:=[.b false])
  (fun i hi=>by
   have hsz:=hz.2.2.2 _ (List.getElem_mem hi)
   have e3:((i:Int)<(f.cps.length:Int)):=by omega
   have hp:cpA f i=(copyOk f.cps[i]&&(f.svs.any (fun s=>sEq s.name f.cps[i].svc)&&((i==0||match f.cps[i-1]? with|some q=>sLt q.name f.cps[i].name|none=>true)&&(sEq f.cps[i].at_ (mkS [])||f.bts.any (fun b=>sEq b.name f.cps[i].at_))))):=by simp only[cpA,List.getElem?_eq_getElem hi]<;>rfl
   have hbt:=i_pBerthAt_eq f f.cps[i].at_ hz.1.1
   have hco:=i_pCopyOk_eq f.cps[i] hsz
   have q1:(f.cps[i].at_.toList==(bs #[]).toList)=sEq f.cps[i].at_ (mkS []):=rfl
   have hb1:decide (bIx f f.cps[i].at_<0)=!f.bts.any (fun b=>sEq b.name f.cps[i].at_):=findIx_any _ _ _
   have hsm:=mapS_get f.svs f.cps[i].svc f.svs.length (Nat.le_refl _)
   rw[List.take_length] at hsm
   simp only[Fl.e,jA,jB] at hbt
   simp only[Cp.e] at hco
   simp only[Fl.e,jA,jB,apL,jC,jD,i_PilotValid.d4,C.I_i,C.L_l,jW,jY,getD_map' Cp.e hi,e3,decide_true,jR,jX,hp]
   simp only[Cp.e,jC,jD,hco,hbt,call1,jI,C.B_b,C.S_s,C.I_i,q1,hb1,hsm]
   have hd3:∀(b:Bool),i_PilotValid.d3 (.l (f.cps.map Cp.e)) (.i (f.cps.length:Nat)) (.i (i:Nat)) (.b b) (.b f.pack) (.l (f.bts.map Bt.e)) (.l (f.svs.map Sv.e)) (.l (f.cps.map Cp.e)) (.l (mapS f.svs f.svs.length)) (.l (mapC f.cps i)) (.s f.cps[i].name) (.s f.cps[i].svc) (.i f.cps[i].rank) (.i f.cps[i].born) (.i f.cps[i].room) (.i f.cps[i].hold) (.s f.cps[i].sel) (.l (f.cps[i].likes.map Lk.e)) (.i f.cps[i].apart) (.s f.cps[i].near) (.s f.cps[i].fixed) (.s f.cps[i].at_)=bif b then some (.ret [.b false]) else some (.again [.l (f.cps.map Cp.e),.i (f.cps.length:Nat),.i (i+1:Nat),.b f.pack,.l (f.bts.map Bt.e),.l (f.svs.map Sv.e),.l (f.cps.map Cp.e),.l (mapS f.svs f.svs.length),.l (mapC f.cps (i+1))]):=fun b=>by
    simp only[i_PilotValid.d3,C.B_b,C.I_i,C.L_l,C.S_s,w1 hi hl,mapC,List.getElem?_eq_getElem hi]
   cases copyOk f.cps[i] with
   |false=>simp[hd3]
   |true=>
    cases f.svs.any (fun s=>sEq s.name f.cps[i].svc) with
    |false=>simp[hd3]
    |true=>
     rcases Nat.eq_zero_or_pos i with h0|h0
     ·subst h0
      simp only[Int.natCast_zero] at hd3
      cases sEq f.cps[0].at_ (mkS [])<;>cases f.bts.any (fun b=>sEq b.name f.cps[0].at_)<;>simp[hd3]
     ·have hi1:i-1<f.cps.length:=by omega
      have hw:w64 ((i:Int)-1)=((i-1:Nat):Int):=by rw[w64_of (by omega) (by simp only[big] at hl;omega)];omega
      have e1:((i:Int)>0):=by omega
      have e2:(((i-1:Nat):Int)<(f.cps.length:Int)):=by omega
      have e4:(i==0)=false:=by simp;omega
      have hn0:(f.cps[i-1].e.getD 0 .nil).S=f.cps[i-1].name:=rfl
      simp only[hw,jY,getD_map' Cp.e hi1,e1,e2,e4,decide_true,jR,jX,List.getElem?_eq_getElem hi1,Bool.false_or,jZ,ja,jS,Bool.true_and,hn0,prev_not]
      cases sLt f.cps[i-1].name f.cps[i].name<;>cases sEq f.cps[i].at_ (mkS [])<;>cases f.bts.any (fun b=>sEq b.name f.cps[i].at_)<;>simp[hd3])
  (by simp[i_PilotValid.d4,Fl.e]) f.cps.length 0 rfl
 simp only[Int.natCast_zero,mapC] at h
 rw[h]
 cases allFrom (cpA f) 0 f.cps.length<;>simp
theorem i_V4 (K:List C→R):bindBlk 6 (lim (ap8 i_PilotValid.d5) ([.l (f.bts.map Bt.e),.i (f.bts.length:Nat),.i 0]++f.e++[.l (mapC f.cps f.cps.length)])) K=bif allFrom (fitA f) 0 f.bts.length then K [] else some (.ret [.b false]):=by
 have hl:f.bts.length<big:=by have:=hz.1.1;simp only[big];omega
 have hlc:f.cps.length<big:=by have:=hz.2.2.1;simp only[big];omega
 have h:=chk_loop (body:=ap8 i_PilotValid.d5) (S:=fun i=>[.l (f.bts.map Bt.e),.i (f.bts.length:Nat),.i (i:Nat)]++f.e++[.l (mapC f.cps f.cps.length)]) (p:=fitA f) (n:=f.bts.length) (b:=6) (ys:=[]) (r:=[.b false])
  (fun i hi=>by
   have e3:((i:Int)<(f.bts.length:Int)):=by omega
   have hq:fitA f i=(decide ((used f f.bts[i].name).1≤f.bts[i].room)&&(decide ((used f f.bts[i].name).2≤f.bts[i].hold)&&decide (standC f.cps f.bts[i].name f.cps.length≤10))):=by simp[fitA,hi]
   have hu:=i_PilotUsed_eq f f.bts[i].name hz
   have hmc:=mapC_get f.cps hlc f.bts[i].name f.cps.length (Nat.le_refl _)
   have g1:decide ((used f f.bts[i].name).1>f.bts[i].room)=!decide ((used f f.bts[i].name).1≤f.bts[i].room):=by rw[←decide_not,decide_eq_decide];omega
   have g2:decide ((used f f.bts[i].name).2>f.bts[i].hold)=!decide ((used f f.bts[i].name).2≤f.bts[i].hold):=by rw[←decide_not,decide_eq_decide];omega
   have g3:decide ((standC f.cps f.bts[i].name f.cps.length:Int)>10)=!decide (standC f.cps f.bts[i].name f.cps.length≤10):=by rw[←decide_not,decide_eq_decide];omega
   simp only[Fl.e,jA,jB] at hu
   simp only[Fl.e,jA,jB,apL,jC,jD,i_PilotValid.d5,C.I_i,C.L_l,jW,jY,getD_map' Bt.e hi,e3,decide_true,jR,jX,w1 hi hl]
   simp only[Bt.e,jC,jD,hu,call2,jI,C.S_s,C.I_i,hmc,g1,g2,g3,hq,Bool.not_not]
   cases decide ((used f f.bts[i].name).1≤f.bts[i].room)<;>cases decide ((used f f.bts[i].name).2≤f.bts[i].hold)<;>cases decide (standC f.cps f.bts[i].name f.cps.length≤10)<;>simp)
  (by simp[i_PilotValid.d5,Fl.e]) f.bts.length 0 rfl
 simp only[Int.natCast_zero] at h
 rw[h]
 cases allFrom (fitA f) 0 f.bts.length<;>simp
theorem i_PilotValid_eq:i_PilotValid f.e=some [.b (validF f)]:=by
 have h1:=i_V1 hz (ap4 i_PilotValid.d9)
 have h2:=i_V2 hz (ap5 i_PilotValid.d8)
 have h3:=i_V3 hz (ap5 i_PilotValid.d7)
 have h4:=i_V4 hz (fun xs=>i_PilotValid.d6)
 simp only[Fl.e,jA,jB] at h1 h2 h3 h4
 have g1:decide ((f.bts.length:Int)>12)=!decide (f.bts.length≤12):=by rw[←decide_not,decide_eq_decide];omega
 have g2:decide ((f.svs.length:Int)>30)=!decide (f.svs.length≤30):=by rw[←decide_not,decide_eq_decide];omega
 have g3:decide ((f.cps.length:Int)>60)=!decide (f.cps.length≤60):=by rw[←decide_not,decide_eq_decide];omega
 simp only[i_PilotValid,i_PilotValid.d10,Fl.e,apL,jC,jD,C.L_l,jW,g1,g2,g3,Bool.not_not,h1,validF]
 cases decide (f.bts.length≤12) with
 |false=>simp
 |true=>
 cases decide (f.svs.length≤30) with
 |false=>simp
 |true=>
 cases decide (f.cps.length≤60) with
 |false=>simp
 |true=>
 cases hb:allFrom (btA f) 0 f.bts.length with
 |false=>simp
 |true=>
 simp only[jR,jZ,jS,Bool.true_and,i_PilotValid.d9,apL,jC,jD,C.L_l,jW,nils,h2]
 cases hs:allFrom (svA f) 0 f.svs.length with
 |false=>simp
 |true=>
 simp only[jR,Bool.true_and,i_PilotValid.d8,apL,jC,jD,C.L_l,jW,nils,h3]
 cases hc:allFrom (cpA f) 0 f.cps.length with
 |false=>simp
 |true=>
 simp only[jR,Bool.true_and,i_PilotValid.d7,apL,jC,jD,C.L_l,jW,h4]
 cases allFrom (fitA f) 0 f.bts.length<;>simp[i_PilotValid.d6]
end
end Go.Ev
namespace Go.Ev
theorem findIx_at {α:Type} (p:α→Bool):∀(l:List α) (n:Nat),findIx p l n<0∨∃i,∃h:i<l.length,findIx p l n=((n+i:Nat):Int)∧p l[i]=true
 |[],n=>.inl (by simp[findIx])
 |x::r,n=>by
  cases hx:p x with
  |true=>exact .inr ⟨0,by simp,by simp[findIx,hx],by simpa using hx⟩
  |false=>
   rcases findIx_at p r (n+1) with h|⟨i,h,h1,h2⟩
   ·exact .inl (by simpa [findIx,hx] using h)
   ·exact .inr ⟨i+1,by simpa using h,by simp[findIx,hx,h1];omega,by simpa using h2⟩
def goneA (f:Fl) (g:List Str) (i:Nat):Bool:=match f.cps[(cIx f (sAt g i)).toNat]? with
 |some c=>decide (0≤cIx f (sAt g i))&&(!sEq c.at_ (mkS [])&&(i==0||sLt (sAt g (i-1)) (sAt g i)))
 |none=>false
def goneS (f:Fl) (g:List Str) (i:Nat):Str:=match f.cps[(cIx f (sAt g i)).toNat]? with
 |some c=>c.svc
 |none=>mkS []
def gcnt (f:Fl) (g:List Str) (nm:Str):Nat→Nat
 |0=>0
 |i+1=>bif sEq (goneS f g i) nm then gcnt f g nm i+1 else gcnt f g nm i
theorem gcnt_le (f:Fl) (g:List Str) (nm:Str):∀i,gcnt f g nm i≤i
 |0=>Nat.le_refl _
 |i+1=>by
  have:=gcnt_le f g nm i
  simp only[gcnt]
  cases sEq (goneS f g i) nm<;>simp<;>omega
def wcnt (l:List Cp) (nm:Str):Nat→Nat
 |0=>0
 |i+1=>match l[i]? with
  |some c=>bif sEq c.svc nm&&sEq c.at_ (mkS []) then wcnt l nm i+1 else wcnt l nm i
  |none=>wcnt l nm i
theorem wcnt_le (l:List Cp) (nm:Str):∀i,wcnt l nm i≤i
 |0=>Nat.le_refl _
 |i+1=>by
  have:=wcnt_le l nm i
  simp only[wcnt]
  split
  ·rename_i c _
   cases sEq c.svc nm&&sEq c.at_ (mkS [])<;>simp<;>omega
  ·omega
theorem i_one_eq (b:Bool):i_one [.b b]=some [.i (bif b then 1 else 0)]:=by cases b<;>rfl
def svGo (f:Fl) (g:List Str) (i:Nat):Bool:=match f.svs[i]? with
 |some s=>gcnt f g s.name g.length==0||decide ((gcnt f g s.name g.length:Int)≤s.spare-wcnt f.cps s.name f.cps.length)
 |none=>true
def mayGo (f:Fl) (g:List Str):Bool:=allFrom (goneA f g) 0 g.length&&allFrom (svGo f g) 0 f.svs.length
section
variable {f:Fl} {g:List Str} (hz:f.Sz 1048576) (hg:SsSz 1048576 g)
include hz hg
theorem s_G1 (K:List C→R):bindBlk 0 (lim (ap6 s_l6MayGo.d1) ([.l (g.map sE),.i 0]++f.e)) K=bif allFrom (goneA f g) 0 g.length then K (.l (g.map sE)::f.e) else some (.ret [.b false]):=by
 have hl:g.length<big:=by have:=hg.1;simp only[big];omega
 have h:=chk_loop (body:=ap6 s_l6MayGo.d1) (S:=fun i=>[.l (g.map sE),.i (i:Nat)]++f.e) (p:=goneA f g) (n:=g.length) (b:=0) (ys:=.l (g.map sE)::f.e) (r:=[.b false])
  (fun i hi=>by
   have e3:((i:Int)<(g.length:Int)):=by omega
   have hc:=s_l2Copy_eq f (sAt g i) hz.2.2.1
   simp only[Fl.e,jA,jB] at hc
   simp only[Fl.e,jA,jB,apL,jC,jD,s_l6MayGo.d1,C.I_i,C.L_l,jW,jY,getD_map' sE hi,←sAt_get hi,e3,decide_true,jR,jX,w1 hi hl]
   simp only[sE,jC,hc,call1,jI,C.I_i,C.S_s]
   rcases findIx_at (fun x:Cp=>sEq x.name (sAt g i)) f.cps 0 with h|⟨k,hk,h1,h2⟩
   ·have h:cIx f (sAt g i)<0:=h
    have:goneA f g i=false:=by
     unfold goneA
     have h':decide (0≤cIx f (sAt g i))=false:=by simp;omega
     split<;>simp[h']
    simp[h,this]
   ·have h1:cIx f (sAt g i)=(k:Nat):=by rw[←Nat.zero_add k];exact h1
    have e5:¬((k:Int)<0):=by omega
    have e6:((k:Int)<(f.cps.length:Int)):=by omega
    have hp:goneA f g i=(!sEq f.cps[k].at_ (mkS [])&&(i==0||sLt (sAt g (i-1)) (sAt g i))):=by
     unfold goneA
     rw[h1,jY,List.getElem?_eq_getElem hk]
     simp
    have q1:((f.cps[k].e.getD 11 .nil).S.toList==(bs #[]).toList)=sEq f.cps[k].at_ (mkS []):=rfl
    simp only[h1,e5,e6,decide_true,decide_false,jY,getD_map' Cp.e hk,q1,ja,jR,jS,jX,hp]
    cases sEq f.cps[k].at_ (mkS []) with
    |true=>simp
    |false=>
     rcases Nat.eq_zero_or_pos i with h0|h0
     ·subst h0;simp
     ·have hi1:i-1<g.length:=by omega
      have hw:w64 ((i:Int)-1)=((i-1:Nat):Int):=by rw[w64_of (by omega) (by simp only[big] at hl;omega)];omega
      have e1:((i:Int)>0):=by omega
      have e2:(((i-1:Nat):Int)<(g.length:Int)):=by omega
      have e4:(i==0)=false:=by simp;omega
      simp only[hw,jY,getD_map' sE hi1,←sAt_get hi1,e1,e2,e4,decide_true,jR,jX,Bool.false_or,jZ,ja,jS,Bool.true_and,sE,jC,C.S_s]
      show (bif (!sLt (sAt g (i-1)) (sAt g i)) then _ else _)=_
      cases sLt (sAt g (i-1)) (sAt g i)<;>simp)
  (by simp[s_l6MayGo.d1,Fl.e]) g.length 0 rfl
 simp only[Int.natCast_zero] at h
 rw[h]
 cases allFrom (goneA f g) 0 g.length<;>simp
theorem gone_at (h:allFrom (goneA f g) 0 g.length=true) {i:Nat} (hi:i<g.length):∃k,∃hk:k<f.cps.length,cIx f (sAt g i)=(k:Nat)∧goneS f g i=f.cps[k].svc:=by
 have:=(allFrom_iff _ _ _).1 h i (Nat.zero_le _) (by omega)
 rcases findIx_at (fun x:Cp=>sEq x.name (sAt g i)) f.cps 0 with h|⟨k,hk,h1,h2⟩
 ·have h:cIx f (sAt g i)<0:=h
  have h':decide (0≤cIx f (sAt g i))=false:=by simp;omega
  unfold goneA at this
  split at this<;>simp[h'] at this
 ·have h1:cIx f (sAt g i)=(k:Nat):=by rw[←Nat.zero_add k];exact h1
  exact ⟨k,hk,h1,by unfold goneS;rw[h1,jY,List.getElem?_eq_getElem hk]⟩
theorem s_G2 (ha:allFrom (goneA f g) 0 g.length=true) (hs:∀s,s∈f.svs→0≤s.spare∧s.spare≤60) (K:List C→R):bindBlk 2 (lim (ap6 s_l6MayGo.d6) ([.l (g.map sE),.i 0]++f.e)) K=bif allFrom (svGo f g) 0 f.svs.length then K [] else some (.ret [.b false]):=by
 have hl:f.svs.length<big:=by have:=hz.2.1.1;simp only[big];omega
 have hlc:f.cps.length<big:=by have:=hz.2.2.1;simp only[big];omega
 have hlg:g.length<big:=by have:=hg.1;simp only[big];omega
 have h:=chk_loop (body:=ap6 s_l6MayGo.d6) (S:=fun i=>[.l (g.map sE),.i (i:Nat)]++f.e) (p:=svGo f g) (n:=f.svs.length) (b:=2) (ys:=[]) (r:=[.b false])
  (fun i hi=>by
   have e3:((i:Int)<(f.svs.length:Int)):=by omega
   have hsp:=hs _ (List.getElem_mem hi)
   have hp:svGo f g i=(gcnt f g f.svs[i].name g.length==0||decide ((gcnt f g f.svs[i].name g.length:Int)≤f.svs[i].spare-wcnt f.cps f.svs[i].name f.cps.length)):=by simp only[svGo,List.getElem?_eq_getElem hi]
   have L1:=run_loop (body:=ap9 s_l6MayGo.d2) (S:=fun k=>[.l (g.map sE),.i (i:Nat),C.i (f.svs[i].spare-((wcnt f.cps f.svs[i].name k:Nat):Int)),.i 0,.i (k:Nat)]++f.e) (n:=f.cps.length) (b:=4) (ys:=[.l (g.map sE),.i (i:Nat),C.i (f.svs[i].spare-((wcnt f.cps f.svs[i].name f.cps.length:Nat):Int)),.i 0]++f.e)
    (fun k hk=>by
     have e5:((k:Int)<(f.cps.length:Int)):=by omega
     have hwl:=wcnt_le f.cps f.svs[i].name k
     have hw:w64 (f.svs[i].spare-(wcnt f.cps f.svs[i].name k:Int)-1)=f.svs[i].spare-((wcnt f.cps f.svs[i].name k+1:Nat):Int):=by simp only[big] at hlc;rw[w64_of (by omega) (by omega)];omega
     simp only[Fl.e,jA,jB,apL,jC,jD,s_l6MayGo.d2,C.I_i,C.L_l,jW,jY,getD_map' Cp.e hk,getD_map' Sv.e hi,e3,e5,decide_true,jR,jX,w1 hk hlc,wcnt,List.getElem?_eq_getElem hk,hw]
     simp only[Cp.e,Sv.e,jC,jD,C.S_s]
     show (bif sEq f.cps[k].svc f.svs[i].name then (bif sEq f.cps[k].at_ (mkS []) then _ else _) else _)=_
     cases sEq f.cps[k].svc f.svs[i].name<;>cases sEq f.cps[k].at_ (mkS [])<;>simp)
    (by simp[s_l6MayGo.d2,Fl.e]) f.cps.length 0 rfl
   have L2:=run_loop (body:=ap9 s_l6MayGo.d3) (S:=fun k=>[.l (g.map sE),.i (i:Nat),C.i (f.svs[i].spare-((wcnt f.cps f.svs[i].name f.cps.length:Nat):Int)),.i (gcnt f g f.svs[i].name k:Nat),.i (k:Nat)]++f.e) (n:=g.length) (b:=6) (ys:=[.l (g.map sE),.i (i:Nat),C.i (f.svs[i].spare-((wcnt f.cps f.svs[i].name f.cps.length:Nat):Int)),.i (gcnt f g f.svs[i].name g.length:Nat)]++f.e)
    (fun k hk=>by
     have e5:((k:Int)<(g.length:Int)):=by omega
     obtain ⟨j,hj,h1,h2⟩:=gone_at hz hg ha hk
     have hc:=s_l2Copy_eq f (sAt g k) hz.2.2.1
     simp only[Fl.e,jA,jB] at hc
     have e6:((j:Int)<(f.cps.length:Int)):=by omega
     have hw:=w64n (n:=gcnt f g f.svs[i].name k) (by have:=gcnt_le f g f.svs[i].name k;omega)
     simp only[Fl.e,jA,jB,apL,jC,jD,s_l6MayGo.d3,C.I_i,C.L_l,jW,jY,getD_map' sE hk,←sAt_get hk,e3,e5,decide_true,jR,jX,w1 hk hlg,gcnt,hw,h2]
     simp only[sE,jC,hc,call1,jI,C.I_i,h1,e6,decide_true,jR,jX,jY,getD_map' Cp.e hj,getD_map' Sv.e hi]
     simp only[Cp.e,Sv.e,jC,jD,C.S_s]
     show (bif sEq f.cps[j].svc f.svs[i].name then _ else _)=_
     cases sEq f.cps[j].svc f.svs[i].name<;>simp)
    (by simp[s_l6MayGo.d3,Fl.e]) g.length 0 rfl
   have e7:f.svs[i].spare-((0:Nat):Int)=f.svs[i].spare:=by omega
   simp only[Fl.e,jA,jB,Int.natCast_zero,wcnt,gcnt,Int.sub_zero,e7] at L1 L2
   simp only[Fl.e,jA,jB,apL,jC,jD,s_l6MayGo.d6,C.I_i,C.L_l,jW,jY,getD_map' Sv.e hi,e3,decide_true,jR,jX]
   have hsp0:f.svs[i].e.getD 1 .nil=.i f.svs[i].spare:=rfl
   rw[hsp0,L1]
   simp only[bindBlk_self,apL,jC,jD,s_l6MayGo.d5]
   rw[L2]
   simp only[bindBlk_self,apL,jC,jD,s_l6MayGo.d4,C.I_i,w1 hi hl,hp]
   by_cases g0:gcnt f g f.svs[i].name g.length=0
   ·simp[g0]
   ·have e8:((gcnt f g f.svs[i].name g.length:Int)>0):=by omega
    have e9:(gcnt f g f.svs[i].name g.length==0)=false:=by simp[g0]
    have e10:decide ((gcnt f g f.svs[i].name g.length:Int)>f.svs[i].spare-(wcnt f.cps f.svs[i].name f.cps.length:Int))=!decide ((gcnt f g f.svs[i].name g.length:Int)≤f.svs[i].spare-(wcnt f.cps f.svs[i].name f.cps.length:Int)):=by rw[←decide_not,decide_eq_decide];omega
    simp only[e8,e9,e10,decide_true,jR,Bool.false_or]
    cases decide ((gcnt f g f.svs[i].name g.length:Int)≤f.svs[i].spare-(wcnt f.cps f.svs[i].name f.cps.length:Int))<;>simp)
  (by simp[s_l6MayGo.d6,Fl.e]) f.svs.length 0 rfl
 simp only[Int.natCast_zero] at h
 rw[h]
 cases allFrom (svGo f g) 0 f.svs.length<;>simp
theorem spares (h:allFrom (svA f) 0 f.svs.length=true):∀s,s∈f.svs→0≤s.spare∧s.spare≤60:=by
 intro s hs
 obtain ⟨i,hi,rfl⟩:=List.getElem_of_mem hs
 have:=(allFrom_iff _ _ _).1 h i (Nat.zero_le _) (by omega)
 simp only[svA,List.getElem?_eq_getElem hi,Bool.and_eq_true,within,decide_eq_true_eq] at this
 exact this.2.2
theorem validF_svs (h:validF f=true):allFrom (svA f) 0 f.svs.length=true:=by
 simp only[validF,Bool.and_eq_true] at h
 exact h.2.2.2.1
theorem s_l6MayGo_eq (h:validF f=true):s_l6MayGo (f.e++[.l (g.map sE)])=some [.b (mayGo f g)]:=by
 have h1:=s_G1 hz hg (ap5 s_l6MayGo.d8)
 simp only[Fl.e,jA,jB] at h1
 simp only[s_l6MayGo,s_l6MayGo.d9,Fl.e,jA,jB,apL,jC,jD,h1,mayGo]
 cases ha:allFrom (goneA f g) 0 g.length with
 |false=>simp
 |true=>
  have h2:=s_G2 hz hg ha (spares hz hg (validF_svs hz hg h)) (fun xs=>s_l6MayGo.d7)
  simp only[Fl.e,jA,jB] at h2
  simp only[jR,Bool.true_and,apL,jC,jD,s_l6MayGo.d8,h2]
  cases allFrom (svGo f g) 0 f.svs.length<;>simp[s_l6MayGo.d7]
def mapG (f:Fl) (g:List Str):Nat→List (List C)
 |0=>[]
 |i+1=>mset (goneS f g i) (.i (w64 ((mget (.i 0) (goneS f g i) (mapG f g i)).I+1))) (mapG f g i)
omit hz in
theorem mapG_get (nm:Str):∀i,i≤g.length→mget (.i 0) nm (mapG f g i)=.i (gcnt f g nm i:Nat)
 |0,_=>rfl
 |i+1,h=>by
  have ih:=mapG_get nm i (by omega)
  have ih2:=mapG_get (goneS f g i) i (by omega)
  have hlg:g.length<big:=by have:=hg.1;simp only[big];omega
  rw[mapG,gcnt,mget_mset,ih,ih2,sEq_comm]
  have hw:=w64n (n:=gcnt f g (goneS f g i) i) (by have:=gcnt_le f g (goneS f g i) i;omega)
  cases hq:sEq (goneS f g i) nm with
  |true=>
   have:=(sEq_iff _ _).1 hq
   subst this
   simp only[jR,C.I_i,hw]
  |false=>rfl
theorem i_G1 (K:List C→R):bindBlk 0 (lim (ap9 i_pMayGo.d1) ([.l (g.map sE),.l (g.map sE),.i (g.length:Nat),.i 0]++f.e++[.l []])) K=bif allFrom (goneA f g) 0 g.length then K (f.e++[.l (mapG f g g.length)]) else some (.ret [.b false]):=by
 have hl:g.length<big:=by have:=hg.1;simp only[big];omega
 have h:=chk_loop (body:=ap9 i_pMayGo.d1) (S:=fun i=>[.l (g.map sE),.l (g.map sE),.i (g.length:Nat),.i (i:Nat)]++f.e++[.l (mapG f g i)]) (p:=goneA f g) (n:=g.length) (b:=0) (ys:=f.e++[.l (mapG f g g.length)]) (r:=[.b false])
  (fun i hi=>by
   have e3:((i:Int)<(g.length:Int)):=by omega
   have hc:=i_pCopyAt_eq f (sAt g i) hz.2.2.1
   simp only[Fl.e,jA,jB] at hc
   simp only[Fl.e,jA,jB,apL,jC,jD,i_pMayGo.d1,C.I_i,C.L_l,jW,jY,getD_map' sE hi,←sAt_get hi,e3,decide_true,jR,jX,w1 hi hl]
   simp only[sE,jC,hc,call1,jI,C.I_i,C.S_s]
   rcases findIx_at (fun x:Cp=>sEq x.name (sAt g i)) f.cps 0 with h|⟨k,hk,h1,h2⟩
   ·have h:cIx f (sAt g i)<0:=h
    have:goneA f g i=false:=by
     unfold goneA
     have h':decide (0≤cIx f (sAt g i))=false:=by simp;omega
     split<;>simp[h']
    simp[h,this]
   ·have h1:cIx f (sAt g i)=(k:Nat):=by rw[←Nat.zero_add k];exact h1
    have e5:¬((k:Int)<0):=by omega
    have e6:((k:Int)<(f.cps.length:Int)):=by omega
    have hp:goneA f g i=(!sEq f.cps[k].at_ (mkS [])&&(i==0||sLt (sAt g (i-1)) (sAt g i))):=by
     unfold goneA
     rw[h1,jY,List.getElem?_eq_getElem hk]
     simp
    have hgs:goneS f g i=f.cps[k].svc:=by unfold goneS;rw[h1,jY,List.getElem?_eq_getElem hk]
    have q1:((f.cps[k].e.getD 11 .nil).S.toList==(bs #[]).toList)=sEq f.cps[k].at_ (mkS []):=rfl
    have q2:(f.cps[k].e.getD 1 .nil).S=f.cps[k].svc:=rfl
    simp only[h1,e5,e6,decide_true,decide_false,jY,getD_map' Cp.e hk,q1,q2,ja,jR,jS,jX,hp,mapG,hgs]
    cases sEq f.cps[k].at_ (mkS []) with
    |true=>simp
    |false=>
     rcases Nat.eq_zero_or_pos i with h0|h0
     ·subst h0;simp
     ·have hi1:i-1<g.length:=by omega
      have hw:w64 ((i:Int)-1)=((i-1:Nat):Int):=by rw[w64_of (by omega) (by simp only[big] at hl;omega)];omega
      have e1:((i:Int)>0):=by omega
      have e2:(((i-1:Nat):Int)<(g.length:Int)):=by omega
      have e4:(i==0)=false:=by simp;omega
      simp only[hw,jY,getD_map' sE hi1,←sAt_get hi1,e1,e2,e4,decide_true,jR,jX,Bool.false_or,jZ,ja,jS,Bool.true_and,sE,jC,C.S_s,prev_not]
      cases sLt (sAt g (i-1)) (sAt g i)<;>simp)
  (by simp[i_pMayGo.d1,Fl.e]) g.length 0 rfl
 simp only[Int.natCast_zero,mapG] at h
 rw[h]
 cases allFrom (goneA f g) 0 g.length<;>simp
theorem i_G2 (hs:∀s,s∈f.svs→0≤s.spare∧s.spare≤60) (K:List C→R):bindBlk 2 (lim (ap8 i_pMayGo.d5) ([.l (f.svs.map Sv.e),.i (f.svs.length:Nat),.i 0]++f.e++[.l (mapG f g g.length)])) K=bif allFrom (svGo f g) 0 f.svs.length then K [] else some (.ret [.b false]):=by
 have hl:f.svs.length<big:=by have:=hz.2.1.1;simp only[big];omega
 have hlc:f.cps.length<big:=by have:=hz.2.2.1;simp only[big];omega
 have h:=chk_loop (body:=ap8 i_pMayGo.d5) (S:=fun i=>[.l (f.svs.map Sv.e),.i (f.svs.length:Nat),.i (i:Nat)]++f.e++[.l (mapG f g g.length)]) (p:=svGo f g) (n:=f.svs.length) (b:=2) (ys:=[]) (r:=[.b false])
  (fun i hi=>by
   have e3:((i:Int)<(f.svs.length:Int)):=by omega
   have hsp:=hs _ (List.getElem_mem hi)
   have hp:svGo f g i=(gcnt f g f.svs[i].name g.length==0||decide ((gcnt f g f.svs[i].name g.length:Int)≤f.svs[i].spare-wcnt f.cps f.svs[i].name f.cps.length)):=by simp only[svGo,List.getElem?_eq_getElem hi]
   have L1:=run_loop (body:=ap14 i_pMayGo.d2) (S:=fun k=>[C.i ((wcnt f.cps f.svs[i].name k:Nat):Int),.l (f.svs.map Sv.e),.i (f.svs.length:Nat),.i (i:Nat),.l (f.cps.map Cp.e),.i (f.cps.length:Nat),.i (k:Nat)]++f.e++[.l (mapG f g g.length),C.s f.svs[i].name,C.i f.svs[i].spare]) (n:=f.cps.length) (b:=4) (ys:=[.i (wcnt f.cps f.svs[i].name f.cps.length:Nat),.l (f.svs.map Sv.e),.i (f.svs.length:Nat),.i (i:Nat)]++f.e++[.l (mapG f g g.length),C.s f.svs[i].name,C.i f.svs[i].spare])
    (fun k hk=>by
     have e5:((k:Int)<(f.cps.length:Int)):=by omega
     have hw:=w64n (n:=wcnt f.cps f.svs[i].name k) (by have:=wcnt_le f.cps f.svs[i].name k;omega)
     have hw0:w64 ((wcnt f.cps f.svs[i].name k:Nat):Int)=(wcnt f.cps f.svs[i].name k:Nat):=by have:=wcnt_le f.cps f.svs[i].name k;simp only[big] at hlc;rw[w64_of (by omega) (by omega)]
     simp only[Fl.e,jA,jB,apL,jC,jD,i_pMayGo.d2,C.I_i,C.L_l,C.S_s,jW,jY,getD_map' Cp.e hk,e5,decide_true,jR,jX,w1 hk hlc,wcnt,List.getElem?_eq_getElem hk]
     simp only[Cp.e,jC,jD,C.S_s,i_one_eq,call1,jI,C.I_i]
     have q1:(f.cps[k].svc.toList==f.svs[i].name.toList)=sEq f.cps[k].svc f.svs[i].name:=rfl
     have q2:(f.cps[k].at_.toList==(bs #[]).toList)=sEq f.cps[k].at_ (mkS []):=rfl
     simp only[q1,q2]
     cases sEq f.cps[k].svc f.svs[i].name<;>cases sEq f.cps[k].at_ (mkS [])<;>simp[hw,hw0,i_one_eq])
    (by simp[i_pMayGo.d2,Fl.e]) f.cps.length 0 rfl
   simp only[Fl.e,jA,jB,Int.natCast_zero,wcnt] at L1
   have hn0:f.svs[i].e.getD 0 .nil=.s f.svs[i].name:=rfl
   have hn1:f.svs[i].e.getD 1 .nil=.i f.svs[i].spare:=rfl
   have hmg:=mapG_get (f:=f) hg f.svs[i].name g.length (Nat.le_refl _)
   have hwl:=wcnt_le f.cps f.svs[i].name f.cps.length
   have hw:w64 (f.svs[i].spare-(wcnt f.cps f.svs[i].name f.cps.length:Int))=f.svs[i].spare-(wcnt f.cps f.svs[i].name f.cps.length:Int):=by simp only[big] at hlc;rw[w64_of (by omega) (by omega)]
   simp only[Fl.e,jA,jB,apL,jC,jD,i_pMayGo.d5,C.I_i,C.L_l,jW,jY,getD_map' Sv.e hi,e3,decide_true,jR,jX,hn0,hn1,C.S_s,hmg,hp]
   by_cases g0:gcnt f g f.svs[i].name g.length=0
   ·have e8:(((gcnt f g f.svs[i].name g.length:Nat):Int)==0)=true:=by simp[g0]
    simp only[e8,jR]
    simp[i_pMayGo.d4,w1 hi hl,g0]
   ·have e8:(((gcnt f g f.svs[i].name g.length:Nat):Int)==0)=false:=by rw[beq_eq_false_iff_ne];omega
    have e9:(gcnt f g f.svs[i].name g.length==0)=false:=by simp[g0]
    have e10:decide ((gcnt f g f.svs[i].name g.length:Int)>f.svs[i].spare-(wcnt f.cps f.svs[i].name f.cps.length:Int))=!decide ((gcnt f g f.svs[i].name g.length:Int)≤f.svs[i].spare-(wcnt f.cps f.svs[i].name f.cps.length:Int)):=by rw[←decide_not,decide_eq_decide];omega
    simp only[e8,jS,L1,bindBlk_self,apL,jC,jD,i_pMayGo.d3,C.I_i,C.L_l,C.S_s,hmg,hw,e9,e10,Bool.false_or]
    cases decide ((gcnt f g f.svs[i].name g.length:Int)≤f.svs[i].spare-(wcnt f.cps f.svs[i].name f.cps.length:Int))<;>simp[i_pMayGo.d4,w1 hi hl])
  (by simp[i_pMayGo.d5,Fl.e]) f.svs.length 0 rfl
 simp only[Int.natCast_zero] at h
 rw[h]
 cases allFrom (svGo f g) 0 f.svs.length<;>simp
theorem i_pMayGo_eq (h:validF f=true):i_pMayGo (f.e++[.l (g.map sE)])=some [.b (mayGo f g)]:=by
 have h1:=i_G1 hz hg (ap5 i_pMayGo.d7)
 have h2:=i_G2 hz hg (spares hz hg (validF_svs hz hg h)) (fun xs=>i_pMayGo.d6)
 simp only[Fl.e,jA,jB] at h1 h2
 simp only[i_pMayGo,i_pMayGo.d8,Fl.e,jA,jB,apL,jC,jD,C.L_l,jW,nils,h1,mayGo]
 cases ha:allFrom (goneA f g) 0 g.length with
 |false=>simp
 |true=>
  simp only[jR,Bool.true_and,apL,jC,jD,i_pMayGo.d7,C.L_l,jW,h2]
  cases allFrom (svGo f g) 0 f.svs.length<;>simp[i_pMayGo.d6]
end
end Go.Ev
namespace Go.Ev
def markM (k:Nat) (n v:Tok) (m:Str):Bool:=mkOk m&&(sEq (mkNm m) (mkS n)&&(k==1||sEq (mkVal m) (mkS v)))
def Tr.meets (ms:List Str):Tr→Bool
 |.lf k n v=>k==0||ms.any (markM k n v)
 |.un t=>!t.meets ms
 |.bn k a b=>bif k==4 then a.meets ms&&b.meets ms else a.meets ms||b.meets ms
def Tr.Ok (t:Tr):Prop:=t.Wf∨t=.lf 0 [] []
theorem any_from (q:Nat→Bool):∀(k i:Nat),(!allFrom (fun j=>!q j) i k)=true↔∃j,i≤j∧j<i+k∧q j=true:=by
 intro k i
 rw[Bool.not_eq_true',←Bool.not_eq_true,allFrom_iff]
 constructor
 ·intro h
  apply Classical.byContradiction
  intro hn
  exact h fun j h1 h2=>by
   cases hq:q j with
   |false=>rfl
   |true=>exact absurd ⟨j,h1,h2,hq⟩ hn
 ·rintro ⟨j,h1,h2,h3⟩ h
  have:=h j h1 h2
  rw[h3] at this;simp at this
theorem any_list (p:Str→Bool) (ms:List Str):allFrom (fun j=>!p (sAt ms j)) 0 ms.length=!ms.any p:=by
 rw[←Bool.not_not (b:=allFrom _ _ _)]
 congr 1
 rw[Bool.eq_iff_iff,any_from,List.any_eq_true]
 constructor
 ·rintro ⟨j,_,h1,h2⟩
  have hj:j<ms.length:=by omega
  rw[sAt_get hj] at h2
  exact ⟨_,List.getElem_mem hj,h2⟩
 ·rintro ⟨x,hx,h⟩
  obtain ⟨j,hj,rfl⟩:=List.getElem_of_mem hx
  exact ⟨j,Nat.zero_le _,by omega,by rw[sAt_get hj];exact h⟩
section
variable {ms:List Str} (hz:SsSz 1048576 ms)
include hz
theorem s_leaf (G:List C→Option (List C)) (k:Nat) (n v:Tok) (c:C) (K:List C→R):bindBlk 1 (lim (ap6 (s_l1Meets.d2 G)) [.l (ms.map sE),.i 0,.i (k:Nat),.s (mkS n),.s (mkS v),c]) K=bif ms.any (markM k n v) then some (.ret [.b true]) else K []:=by
 have hl:ms.length<big:=by have:=hz.1;simp only[big];omega
 have h:=chk_loop (body:=ap6 (s_l1Meets.d2 G)) (S:=fun i=>[.l (ms.map sE),.i (i:Nat),.i (k:Nat),.s (mkS n),.s (mkS v),c]) (p:=fun j=>!markM k n v (sAt ms j)) (n:=ms.length) (b:=1) (ys:=[]) (r:=[.b true])
  (fun i hi=>by
   have hsz:(sAt ms i).size≤1048576:=by rw[sAt_get hi];exact hz.2 _ (List.getElem_mem hi)
   have e3:((i:Int)<(ms.length:Int)):=by omega
   have q1:((mkNm (sAt ms i)).toList==(mkS n).toList)=sEq (mkNm (sAt ms i)) (mkS n):=rfl
   have q2:((mkVal (sAt ms i)).toList==(mkS v).toList)=sEq (mkVal (sAt ms i)) (mkS v):=rfl
   have q3:(((k:Nat):Int)==1)=(k==1):=by rw[Bool.eq_iff_iff,beq_iff_eq,beq_iff_eq];omega
   simp only[apL,jC,jD,s_l1Meets.d2,s_l1Meets.d1,C.I_i,C.L_l,jW,jY,getD_map' sE hi,←sAt_get hi,w1 hi hl,e3,decide_true,jR,jX]
   simp only[sE,jC,s_l1Mark_eq _ hsz,call3,jI,C.S_s,jD,C.B_b,q1,q2,q3,markM]
   cases mkOk (sAt ms i)<;>cases sEq (mkNm (sAt ms i)) (mkS n)<;>cases k==1<;>cases sEq (mkVal (sAt ms i)) (mkS v)<;>simp[s_l1Meets.d1,w1 hi hl])
  (by simp[s_l1Meets.d2]) ms.length 0 rfl
 simp only[Int.natCast_zero,any_list] at h
 rw[h]
 cases ms.any (markM k n v)<;>simp
theorem i_leaf (G:List C→Option (List C)) (k:Nat) (n v:Tok) (l:C) (K:List C→R):bindBlk 1 (lim (ap4 (i_pSel_meets.d2 G)) [.p [.i (k:Nat),.s (mkS n),.s (mkS v),l],.l (ms.map sE),.i (ms.length:Nat),.i 0]) K=bif ms.any (markM k n v) then some (.ret [.b true]) else K []:=by
 have hl:ms.length<big:=by have:=hz.1;simp only[big];omega
 have h:=chk_loop (body:=ap4 (i_pSel_meets.d2 G)) (S:=fun i=>[.p [.i (k:Nat),.s (mkS n),.s (mkS v),l],.l (ms.map sE),.i (ms.length:Nat),.i (i:Nat)]) (p:=fun j=>!markM k n v (sAt ms j)) (n:=ms.length) (b:=1) (ys:=[]) (r:=[.b true])
  (fun i hi=>by
   have hsz:(sAt ms i).size≤1048576:=by rw[sAt_get hi];exact hz.2 _ (List.getElem_mem hi)
   have e3:((i:Int)<(ms.length:Int)):=by omega
   have q1:((mkNm (sAt ms i)).toList==(mkS n).toList)=sEq (mkNm (sAt ms i)) (mkS n):=rfl
   have q2:((mkVal (sAt ms i)).toList==(mkS v).toList)=sEq (mkVal (sAt ms i)) (mkS v):=rfl
   have q3:(((k:Nat):Int)==1)=(k==1):=by rw[Bool.eq_iff_iff,beq_iff_eq,beq_iff_eq];omega
   simp only[apL,jC,jD,i_pSel_meets.d2,i_pSel_meets.d1,C.I_i,C.L_l,jW,jY,getD_map' sE hi,←sAt_get hi,w1 hi hl,e3,decide_true,jR,jX]
   simp only[sE,jC,i_pMark_eq _ hsz,call3,jI,C.S_s,jD,C.B_b,C.isP_p,C.P_p,C.I_i,jR,q1,q2,q3,markM]
   cases mkOk (sAt ms i)<;>cases sEq (mkNm (sAt ms i)) (mkS n)<;>cases k==1<;>cases sEq (mkVal (sAt ms i)) (mkS v)<;>simp[i_pSel_meets.d1,w1 hi hl])
  (by simp[i_pSel_meets.d2]) ms.length 0 rfl
 simp only[Int.natCast_zero,any_list] at h
 rw[h]
 cases ms.any (markM k n v)<;>simp
theorem i_meets:∀(k:Nat) (t:Tr),t.depth<k→t.Ok→i_pSel_meets.g k 0 [t.enc,.l (ms.map sE)]=some [.b (t.meets ms)]
 |0,t,h,_=>by omega
 |k+1,t,h,hok=>by
  have hs:∀x,i_pSel_meets.g (k+1) 0 x=i_pSel_meets.step (i_pSel_meets.g k 0) x:=fun _=>rfl
  rw[hs]
  simp only[i_pSel_meets.step,i_pSel_meets.d5,apL,jC,jD]
  cases t with
  |lf kd n v=>
   have hlf:=i_leaf hz (i_pSel_meets.g k 0) kd n v (.l []) (fun xs=>i_pSel_meets.d3 (i_pSel_meets.g k 0))
   have hk:kd=0∨kd=1∨kd=2:=by
    rcases hok with h|h
    ·rcases h.2 with ⟨h,_⟩|⟨h,_⟩
     ·exact .inr (.inl h)
     ·exact .inr (.inr h)
    ·simp only[Tr.lf.injEq] at h;exact .inl h.1
   simp only[Tr.enc,C.isP_p,jR,C.P_p,jC,C.I_i,Tr.meets]
   rcases hk with rfl|rfl|rfl
   ·simp[i_pSel_meets.d4]
   ·simp only[i_pSel_meets.d4,jJ,apL,jC,jD,C.B_b,C.L_l,jW,hlf,show (((1:Nat):Int)==1)=true from rfl,jR]
    cases ms.any (markM 1 n v)<;>simp[i_pSel_meets.d3]
   ·simp only[i_pSel_meets.d4,jJ,apL,jC,jD,C.B_b,C.L_l,jW,hlf,show (((2:Nat):Int)==1)=false from rfl,show (((2:Nat):Int)==2)=true from rfl,jR,jS]
    cases ms.any (markM 2 n v)<;>simp[i_pSel_meets.d3]
  |un t=>
   simp only[Tr.depth] at h
   have hw:t.Ok:=by
    rcases hok with h|h
    ·exact .inl h
    ·simp at h
   have ih:=i_meets k t (by omega) hw
   simp[Tr.enc,i_pSel_meets.d4,ih,call1,Tr.meets]
  |bn kd a b=>
   simp only[Tr.depth] at h
   have hw:(kd=4∨kd=5)∧a.Ok∧b.Ok:=by
    rcases hok with h|h
    ·exact ⟨h.1,.inl h.2.1,.inl h.2.2⟩
    ·simp at h
   have iha:=i_meets k a (by omega) hw.2.1
   have ihb:=i_meets k b (by omega) hw.2.2
   rcases hw.1 with rfl|rfl
   ·cases ha:a.meets ms<;>simp[Tr.enc,i_pSel_meets.d4,iha,ihb,call1,Tr.meets,ha]
   ·cases ha:a.meets ms<;>simp[Tr.enc,i_pSel_meets.d4,iha,ihb,call1,Tr.meets,ha]
theorem s_meets {N K:List (List C)} (hN:N.length≤1048576) (hK:K.length≤1048576):∀(k:Nat) (t:Tr) (o:Nat) (r r':List (List C)),t.depth<k→t.Ok→N.drop o=t.flat++r→K.drop o=t.kids o++r'→
  s_l1Meets.g k 0 [.l N,.l K,.i (o+t.sz-1:Nat),.l (ms.map sE)]=some [.b (t.meets ms)]
 |0,t,o,r,r',h,_,_,_=>by omega
 |k+1,t,o,r,r',h,hok,hd,hd'=>by
  have hs:∀x,s_l1Meets.g (k+1) 0 x=s_l1Meets.step (s_l1Meets.g k 0) x:=fun _=>rfl
  rw[hs]
  simp only[s_l1Meets.step,s_l1Meets.d4,apL,jC,jD,C.I_i,C.L_l,jY]
  cases t with
  |lf kd n v=>
   obtain ⟨h1,h2,_⟩:=drop_cons (show N.drop o=node kd n v 0::r from hd)
   have hlf:=s_leaf hz (s_l1Meets.g k 0) kd n v (.i ((0:Nat):Int)) (fun xs=>s_l1Meets.d3 (s_l1Meets.g k 0))
   have e:o+(Tr.lf kd n v).sz-1=o:=by simp[Tr.sz]
   have hg:N.getD o []=node kd n v 0:=by rw[List.getD_eq_getElem?_getD,List.getElem?_eq_getElem h1,h2];rfl
   have e1:((o:Int)<(N.length:Int)):=by omega
   have hk:kd=0∨kd=1∨kd=2:=by
    rcases hok with h|h
    ·rcases h.2 with ⟨h,_⟩|⟨h,_⟩
     ·exact .inr (.inl h)
     ·exact .inr (.inr h)
    ·simp only[Tr.lf.injEq] at h;exact .inl h.1
   simp only[e,hg,node,jC,jD,C.I_i,e1,decide_true,jR,jX,Tr.meets]
   rcases hk with rfl|rfl|rfl
   ·simp
   ·simp only[show (((1:Nat):Int)==0)=false from rfl,show (((1:Nat):Int)==3)=false from rfl,show (((1:Nat):Int)==4)=false from rfl,show (((1:Nat):Int)==5)=false from rfl,jS,hlf]
    cases ms.any (markM 1 n v)<;>simp[s_l1Meets.d3]
   ·simp only[show (((2:Nat):Int)==0)=false from rfl,show (((2:Nat):Int)==3)=false from rfl,show (((2:Nat):Int)==4)=false from rfl,show (((2:Nat):Int)==5)=false from rfl,jS,hlf]
    cases ms.any (markM 2 n v)<;>simp[s_l1Meets.d3]
  |un t=>
   simp only[Tr.depth] at h
   have hw:t.Ok:=by
    rcases hok with h|h
    ·exact .inl h
    ·simp at h
   have hn:N.drop o=t.flat++(node 3 [] [] 1::r):=by rw[hd];simp[Tr.flat]
   have hk:K.drop o=t.kids o++([.l [[.i (o+t.sz-1:Nat)]]]::r'):=by rw[hd'];simp[Tr.kids]
   have ih:=s_meets hN hK k t o _ _ (by omega) hw hn hk
   obtain ⟨h1,h2⟩:=drop_at hn
   obtain ⟨h3,h4⟩:=drop_at hk
   rw[t.flat_len] at h1
   rw[t.kids_len] at h3
   have h2:N[o+t.sz]=node 3 [] [] 1:=by simp only[t.flat_len] at h2;exact h2
   have h4:K[o+t.sz]=[.l [[.i (o+t.sz-1:Nat)]]]:=by simp only[t.kids_len] at h4;exact h4
   have e:o+(Tr.un t).sz-1=o+t.sz:=by simp[Tr.sz]
   have hg:N.getD (o+t.sz) []=node 3 [] [] 1:=by rw[List.getD_eq_getElem?_getD,List.getElem?_eq_getElem h1,h2];rfl
   have hg':K.getD (o+t.sz) []=[.l [[.i (o+t.sz-1:Nat)]]]:=by rw[List.getD_eq_getElem?_getD,List.getElem?_eq_getElem h3,h4];rfl
   have e1:(((o+t.sz:Nat):Int)<(N.length:Int)):=by omega
   have e2:(((o+t.sz:Nat):Int)<(K.length:Int)):=by omega
   simp only[e,hg,hg',node,jC,jD,C.I_i,C.L_l,e1,e2,decide_true,jR,jX,ih,call1,jI,C.B_b,Tr.meets]
   simp
  |bn kd a b=>
   simp only[Tr.depth] at h
   have hw:(kd=4∨kd=5)∧a.Ok∧b.Ok:=by
    rcases hok with h|h
    ·exact ⟨h.1,.inl h.2.1,.inl h.2.2⟩
    ·simp at h
   have hn:N.drop o=a.flat++(b.flat++(node kd [] [] 2::r)):=by rw[hd];simp[Tr.flat]
   have hn2:N.drop (o+a.sz)=b.flat++(node kd [] [] 2::r):=by rw[←List.drop_drop,hn,←a.flat_len];simp
   have hk:K.drop o=a.kids o++(b.kids (o+a.sz)++([.l [[.i (o+a.sz-1:Nat)],[.i (o+a.sz+b.sz-1:Nat)]]]::r')):=by rw[hd'];simp[Tr.kids]
   have hk2:K.drop (o+a.sz)=b.kids (o+a.sz)++([.l [[.i (o+a.sz-1:Nat)],[.i (o+a.sz+b.sz-1:Nat)]]]::r'):=by
    rw[←List.drop_drop,hk,←a.kids_len o];simp
   have iha:=s_meets hN hK k a o _ _ (by omega) hw.2.1 hn hk
   have ihb:=s_meets hN hK k b (o+a.sz) _ _ (by omega) hw.2.2 hn2 hk2
   obtain ⟨h1,h2⟩:=drop_at hn2
   obtain ⟨h3,h4⟩:=drop_at hk2
   rw[b.flat_len] at h1
   rw[b.kids_len] at h3
   have h2:N[o+a.sz+b.sz]=node kd [] [] 2:=by simp only[b.flat_len] at h2;exact h2
   have h4:K[o+a.sz+b.sz]=[.l [[.i (o+a.sz-1:Nat)],[.i (o+a.sz+b.sz-1:Nat)]]]:=by simp only[b.kids_len] at h4;exact h4
   have e:o+(Tr.bn kd a b).sz-1=o+a.sz+b.sz:=by simp only[Tr.sz];omega
   have hg:N.getD (o+a.sz+b.sz) []=node kd [] [] 2:=by rw[List.getD_eq_getElem?_getD,List.getElem?_eq_getElem h1,h2];rfl
   have hg':K.getD (o+a.sz+b.sz) []=[.l [[.i (o+a.sz-1:Nat)],[.i (o+a.sz+b.sz-1:Nat)]]]:=by rw[List.getD_eq_getElem?_getD,List.getElem?_eq_getElem h3,h4];rfl
   have e1:(((o+a.sz+b.sz:Nat):Int)<(N.length:Int)):=by omega
   have e2:(((o+a.sz+b.sz:Nat):Int)<(K.length:Int)):=by omega
   simp only[e,hg,hg',node,jC,jD,C.I_i,C.L_l,e1,e2,decide_true,jR,jX,iha,ihb,call1,jI,C.B_b,Tr.meets]
   rcases hw.1 with rfl|rfl
   ·cases a.meets ms<;>simp
   ·cases a.meets ms<;>simp
end
end Go.Ev
namespace Go.Ev
def PR.tr:PR→Option Tr
 |.err _=>none
 |.all=>some (.lf 0 [] [])
 |.tree t=>some t
theorem PR.tr_some {p:PR} {t:Tr} (h:p.tr=some t):p.nodes=t.flat∧p.ptr=t.enc∧p.code=0:=by
 cases p with
 |err n=>simp[PR.tr] at h
 |all=>simp only[PR.tr,Option.some.injEq] at h;subst h;exact ⟨rfl,rfl,rfl⟩
 |tree u=>simp only[PR.tr,Option.some.injEq] at h;subst h;exact ⟨rfl,rfl,rfl⟩
theorem PR.tr_none {p:PR} (h:p.tr=none):∃n,p=.err n:=by
 cases p with
 |err n=>exact ⟨n,rfl⟩
 |all=>simp[PR.tr] at h
 |tree u=>simp[PR.tr] at h
theorem pp_code (s:Str) {n:Nat} (h:pp s=.err n):n≠0:=by
 unfold pp at h
 split at h
 ·simp at h;omega
 ·split at h
  ·simp at h
  ·split at h
   ·split at h
    ·simp at h
    ·simp at h;omega
   ·simp at h;omega
theorem pp_ok {s:Str} {t:Tr} (h:(pp s).tr=some t):t.Ok∧t.sz≤200∧t.depth≤20:=by
 cases hp:pp s with
 |err n=>rw[hp] at h;simp[PR.tr] at h
 |all=>
  rw[hp] at h
  simp only[PR.tr,Option.some.injEq] at h
  subst h
  exact ⟨.inr rfl,by simp[Tr.sz],by simp[Tr.depth]⟩
 |tree u=>
  rw[hp] at h
  simp only[PR.tr,Option.some.injEq] at h
  subst h
  obtain ⟨h1,h2,h3⟩:=pp_tree hp
  exact ⟨.inl h1,h2,h3⟩
theorem s_l1Tree0:s_l1Tree [.l (Tr.lf 0 [] []).flat]=some [.b true]:=by
 have w0:w64 1=1:=w64_of (by omega) (by omega)
 have z0:within 0 0 5=true:=rfl
 have h0:ap2 s_l1Tree.d4 [.i 0,.l (Tr.lf 0 [] []).flat]=some (.again [.i 1,.l (Tr.lf 0 [] []).flat]):=by
  simp[s_l1Tree.d4,s_l1Tree.d3,s_l1Tree.d2,s_l1Tree.d1,Tr.flat,node,s_l1In_eq,z0,call1,emp,bs_nil,w0]
 have h1:ap2 s_l1Tree.d4 [.i 1,.l (Tr.lf 0 [] []).flat]=some (.brk 0 []):=by
  simp[s_l1Tree.d4,Tr.flat]
 have hk:=s_l1Kids_eq (.lf 0 [] []) (by simp[Tr.sz])
 have e:¬(((Tr.lf 0 [] []).flat.length:Int)>400):=by simp[Tr.flat]
 simp only[s_l1Tree,s_l1Tree.d6,apL,jC,C.L_l,e,decide_false,jS,hk,call2,jI,C.B_b,jZ]
 rw[lim_again h0,lim_brk h1]
 simp[s_l1Tree.d5]
theorem s_l1Tree_Ok (t:Tr) (ht:t.sz≤400) (ho:t.Ok):s_l1Tree [.l t.flat]=some [.b true]:=by
 rcases ho with h|rfl
 ·exact s_l1Tree_eq t ht h
 ·exact s_l1Tree0
theorem s_l1Valid_Ok (t:Tr) (ht:t.sz≤400) (ho:t.Ok):s_l1Valid [.l t.flat]=some [.b (decide (t.depth≤20))]:=by
 have hd:=t.depth_lt
 have hp:=t.sz_pos
 have hF:=FUEL_ge
 have hw1:w64 ((t.flat.length:Int)-1)=((0+t.sz-1:Nat):Int):=by rw[t.flat_len,w64_of (by omega) (by omega)];omega
 have hn:s_l1Nest [.l (t.kids 0),.i (0+t.sz-1:Nat)]=some [.i (t.depth:Nat)]:=
  s_nest (K:=t.kids 0) (by rw[t.kids_len];omega) FUEL t 0 [] (by omega) (by simp only[big];omega) (by simp)
 simp only[s_l1Valid,s_l1Valid.d1,apL,jC,jD,s_l1Tree_Ok t ht ho,call1,call2,jI,C.B_b,jZ,jS,s_l1Kids_eq t (by omega),C.L_l,hw1,hn,C.I_i,jV]
 have:decide ((t.depth:Int)≤20)=decide (t.depth≤20):=by
  rw[decide_eq_decide];omega
 rw[this]
def zoneS (z:Str):Str:=bs #[122,111,110,101,61]++z
def marksB (b:Bt):List Str:=b.marks++[zoneS b.zone]
def selM (s:Str) (b:Bt):Bool:=match (pp s).tr with
 |some t=>t.meets (marksB b)
 |none=>false
theorem zone_size (z:Str):(zoneS z).size=5+z.size:=by
 unfold zoneS
 rw[ByteArray.size_append];rfl
theorem berthOk_sz {b:Bt} (hb:berthOk b=true):b.marks.length≤10∧b.zone.size≤20:=by
 simp only[berthOk,marksOk,nameOk,within,Bool.and_eq_true,decide_eq_true_eq] at hb
 omega
theorem marksB_sz {b:Bt} (hz:b.Sz 1048576) (hb:berthOk b=true):SsSz 1048576 (marksB b):=by
 obtain ⟨h1,h2⟩:=berthOk_sz hb
 refine ⟨by simp[marksB];omega,fun s hs=>?_⟩
 rcases List.mem_append.1 hs with hs|hs
 ·exact hz.2.2.2 s hs
 ·simp at hs;subst hs;rw[zone_size];omega
theorem s_PilotMeets_eq (t:Tr) (ht:t.sz≤400) (ho:t.Ok) (hd:t.depth≤20) {ms:List Str} (hz:SsSz 1048576 ms):s_PilotMeets [.l t.flat,.l (ms.map sE)]=some [.b (t.meets ms)]:=by
 have hF:=FUEL_ge
 have hp:=t.sz_pos
 have hw1:w64 ((t.flat.length:Int)-1)=((0+t.sz-1:Nat):Int):=by rw[t.flat_len,w64_of (by omega) (by omega)];omega
 have hm:s_l1Meets [.l t.flat,.l (t.kids 0),.i (0+t.sz-1:Nat),.l (ms.map sE)]=some [.b (t.meets ms)]:=
  s_meets hz (by rw[t.flat_len];omega) (by rw[t.kids_len];omega) FUEL t 0 [] [] (by omega) ho (by simp) (by simp)
 simp only[s_PilotMeets,s_PilotMeets.d1,apL,jC,jD,s_l1Valid_Ok t ht ho,hd,decide_true,call1,call2,jI,C.B_b,jZ,jS,s_l1Kids_eq t (by omega),C.L_l,hw1,hm,jV]
theorem s_l3Select_eq (s:Str) (b:Bt) (hs:s.size≤1048576) (hz:b.Sz 1048576) (hb:berthOk b=true):s_l3Select (.s s::b.e)=some [.b (selM s b)]:=by
 obtain ⟨z1,z2⟩:=berthOk_sz hb
 have hm:s_l3Marks b.e=some [.l ((marksB b).map sE)]:=by
  have e1:b.marks.length≤4294967296:=by omega
  have e2:(bs #[122,111,110,101,61]).size+b.zone.size≤4294967296:=by
   have:(bs #[122,111,110,101,61]).size=5:=rfl
   omega
  have e3:b.marks.length+1≤4294967296:=by omega
  simp[s_l3Marks,s_l3Marks.d1,Bt.e,e1,e2,e3,marksB,zoneS,sE]
 simp only[Bt.e] at hm
 simp only[s_l3Select,s_l3Select.d1,Bt.e,apL,jC,jD,s_PilotParse_eq s hs,call2,jI,C.I_i,selM]
 cases ht:(pp s).tr with
 |none=>
  obtain ⟨n,hn⟩:=PR.tr_none ht
  have hne:=pp_code s hn
  have e:((((PR.err n).code:Nat):Int)==0)=false:=by rw[beq_eq_false_iff_ne];simp only[PR.code];omega
  rw[hn]
  simp only[e,jS,jV]
 |some t=>
  obtain ⟨h1,h2,h3⟩:=PR.tr_some ht
  obtain ⟨o1,o2,o3⟩:=pp_ok ht
  have hp:=s_PilotMeets_eq t (by omega) o1 o3 (marksB_sz hz hb)
  rw[h1,h3]
  simp[hm,call1,hp]
theorem i_pMeets_eq (s:Str) (b:Bt) (hs:s.size≤1048576) (hz:b.Sz 1048576) (hb:berthOk b=true):i_pMeets (.s s::b.e)=some [.b (selM s b)]:=by
 obtain ⟨z1,z2⟩:=berthOk_sz hb
 have hF:=FUEL_ge
 have e1:b.marks.length≤4294967296:=by omega
 have e2:(bs #[122,111,110,101,61]).size+b.zone.size≤4294967296:=by
  have:(bs #[122,111,110,101,61]).size=5:=rfl
  omega
 have e3:b.marks.length+1≤4294967296:=by omega
 have hmb:b.marks.map sE++[[.s (bs #[122,111,110,101,61]++b.zone)]]=(marksB b).map sE:=by simp[marksB,zoneS,sE]
 simp only[i_pMeets,i_pMeets.d1,Bt.e,apL,jC,jD,i_pParse_eq s hs,call2,jI,C.I_i,C.L_l,C.S_s,jW,rows,hmb,selM]
 cases ht:(pp s).tr with
 |none=>
  obtain ⟨n,hn⟩:=PR.tr_none ht
  have hne:=pp_code s hn
  have e:((((PR.err n).code:Nat):Int)==0)=false:=by rw[beq_eq_false_iff_ne];simp only[PR.code];omega
  rw[hn]
  simp only[e,jS,jV]
 |some t=>
  obtain ⟨h1,h2,h3⟩:=PR.tr_some ht
  obtain ⟨o1,o2,o3⟩:=pp_ok ht
  have hm:i_pSel_meets [t.enc,.l ((marksB b).map sE)]=some [.b (t.meets (marksB b))]:=i_meets (marksB_sz hz hb) FUEL t (by omega) o1
  rw[h2,h3]
  simp[e1,e2,e3,hm,call1]
end Go.Ev
namespace Go.Ev
def zoneOf (f:Fl) (nm:Str):Str:=if bIx f nm<0 then mkS [] else match f.bts[(bIx f nm).toNat]? with
 |some b=>b.zone
 |none=>mkS []
theorem bIx_at (f:Fl) (nm:Str):bIx f nm<0∨∃k,∃h:k<f.bts.length,bIx f nm=(k:Nat)∧sEq f.bts[k].name nm=true:=by
 rcases findIx_at (fun x:Bt=>sEq x.name nm) f.bts 0 with h|⟨k,hk,h1,h2⟩
 ·exact .inl h
 ·exact .inr ⟨k,hk,by rw[←Nat.zero_add k];exact h1,h2⟩
theorem cIx_at (f:Fl) (nm:Str):cIx f nm<0∨∃k,∃h:k<f.cps.length,cIx f nm=(k:Nat)∧sEq f.cps[k].name nm=true:=by
 rcases findIx_at (fun x:Cp=>sEq x.name nm) f.cps 0 with h|⟨k,hk,h1,h2⟩
 ·exact .inl h
 ·exact .inr ⟨k,hk,by rw[←Nat.zero_add k];exact h1,h2⟩
theorem s_l3ZoneOf_eq (f:Fl) (nm:Str) (hz:f.Sz 1048576):s_l3ZoneOf (f.e++[.s nm])=some [.s (zoneOf f nm)]:=by
 have hb:=s_l2Berth_eq f nm hz.1.1
 simp only[Fl.e,jA,jB] at hb
 simp only[s_l3ZoneOf,s_l3ZoneOf.d1,Fl.e,jA,jB,apL,jC,jD,hb,call1,jI,C.I_i,C.L_l,jW,zoneOf]
 rcases bIx_at f nm with h|⟨k,hk,h1,_⟩
 ·simp[h,bs_nil]
 ·have e5:¬((k:Int)<0):=by omega
  have e6:((k:Int)<(f.bts.length:Int)):=by omega
  have hg:f.bts[k].e.getD 1 .nil=.s f.bts[k].zone:=rfl
  simp only[h1,e5,e6,decide_true,decide_false,jR,jS,jX,jY,getD_map' Bt.e hk,hg,if_false,List.getElem?_eq_getElem hk,jV]
theorem i_pZone_eq (f:Fl) (nm:Str) (hz:f.Sz 1048576):i_pZone (f.e++[.s nm])=some [.s (zoneOf f nm)]:=by
 have hb:=i_pBerthAt_eq f nm hz.1.1
 simp only[Fl.e,jA,jB] at hb
 simp only[i_pZone,i_pZone.d1,Fl.e,jA,jB,apL,jC,jD,hb,call1,jI,C.I_i,C.L_l,jW,zoneOf]
 rcases bIx_at f nm with h|⟨k,hk,h1,_⟩
 ·have e:¬(bIx f nm≥0):=by omega
  simp[h,e,bs_nil]
 ·have e5:¬((k:Int)<0):=by omega
  have e7:((k:Int)≥0):=by omega
  have e6:((k:Int)<(f.bts.length:Int)):=by omega
  have hg:f.bts[k].e.getD 1 .nil=.s f.bts[k].zone:=rfl
  simp only[h1,e5,e6,e7,decide_true,jR,jX,jY,getD_map' Bt.e hk,hg,if_false,List.getElem?_eq_getElem hk,jV]
def oth (c x:Cp):Bool:=!sEq x.name c.name&&!sEq x.at_ (mkS [])
section
variable {f:Fl} (hz:f.Sz 1048576) {c:Cp} (hc:c.Sz 1048576) {b:Bt} (hb:b.Sz 1048576) (hbo:berthOk b=true)
include hz hc hb hbo
end
end Go.Ev
namespace Go.Ev
theorem valid_bts0 {f:Fl} (h:validF f=true):∀b,b∈f.bts→berthOk b=true:=by
 intro b hb
 obtain ⟨i,hi,rfl⟩:=List.getElem_of_mem hb
 simp only[validF,Bool.and_eq_true] at h
 have:=(allFrom_iff _ _ _).1 h.2.2.2.2.2.1 i (Nat.zero_le _) (by omega)
 simp only[btA,List.getElem?_eq_getElem hi,Bool.and_eq_true] at this
 exact this.1
theorem valid_cps {f:Fl} (h:validF f=true):∀c,c∈f.cps→copyOk c=true:=by
 intro b hb
 obtain ⟨i,hi,rfl⟩:=List.getElem_of_mem hb
 simp only[validF,Bool.and_eq_true] at h
 have:=(allFrom_iff _ _ _).1 h.2.2.2.2.1 i (Nat.zero_le _) (by omega)
 simp only[cpA,List.getElem?_eq_getElem hi,Bool.and_eq_true] at this
 exact this.1
structure VB (f:Fl):Prop where
 n60:f.cps.length≤60
 cb:∀x,x∈f.cps→(0≤x.room∧x.room≤1000)∧(0≤x.hold∧x.hold≤1000)∧(0≤x.apart∧x.apart≤2)∧(0≤x.rank∧x.rank≤100)∧(0≤x.born∧x.born≤1000000)
 bb:∀b,b∈f.bts→berthOk b=true
theorem vb_of {f:Fl} (h:validF f=true):VB f:=by
 refine ⟨?_,fun x hx=>?_,valid_bts0 h⟩
 ·simp only[validF,Bool.and_eq_true,decide_eq_true_eq] at h
  exact h.2.2.1
 ·have:=valid_cps h x hx
  simp only[copyOk,within,Bool.and_eq_true,decide_eq_true_eq] at this
  exact ⟨this.2.2.2.1,this.2.2.2.2.1,this.2.2.2.2.2.2.1,this.2.1,this.2.2.1⟩
section
variable {f:Fl} (hz:f.Sz 1048576) {c:Cp} (hc:c.Sz 1048576) {b:Bt} (hb:b.Sz 1048576) (hbo:berthOk b=true)
include hz hc hb hbo
end
section
variable {f:Fl} (hz:f.Sz 1048576) (cn bn_:Str)
include hz
end
end Go.Ev
namespace Go.Ev
def at_P {α:Type} (p:α→Bool) (l:List α) (j:Nat):Bool:=match l[j]? with|some x=>p x|none=>false
theorem at_P_lt {α:Type} (p:α→Bool) {l:List α} {j:Nat} (h:j<l.length):at_P p l j=p l[j]:=by simp[at_P,h]
theorem any_P {α:Type} (p:α→Bool) (l:List α):allFrom (fun j=>!at_P p l j) 0 l.length=!l.any p:=by
 rw[←Bool.not_not (b:=allFrom _ _ _)]
 congr 1
 rw[Bool.eq_iff_iff,any_from,List.any_eq_true]
 constructor
 ·rintro ⟨j,_,h1,h2⟩
  have hj:j<l.length:=by omega
  rw[at_P_lt p hj] at h2
  exact ⟨_,List.getElem_mem hj,h2⟩
 ·rintro ⟨x,hx,h⟩
  obtain ⟨j,hj,rfl⟩:=List.getElem_of_mem hx
  exact ⟨j,Nat.zero_le _,by omega,by rw[at_P_lt p hj];exact h⟩
def anyN {α:Type} (p:α→Bool) (l:List α) (i:Nat):Bool:=(l.take i).any p
theorem anyN_succ {α:Type} (p:α→Bool) {l:List α} {i:Nat} (h:i<l.length):anyN p l (i+1)=(anyN p l i||p l[i]):=by
 unfold anyN
 rw[List.take_succ_eq_append_getElem h,List.any_append]
 simp only[List.any_cons,List.any_nil,Bool.or_false]
theorem anyN_all {α:Type} (p:α→Bool) (l:List α):anyN p l l.length=l.any p:=by simp[anyN]
def cntN {α:Type} (p:α→Bool) (l:List α) (i:Nat):Nat:=(l.take i).countP p
theorem cntN_succ {α:Type} (p:α→Bool) {l:List α} {i:Nat} (h:i<l.length):cntN p l (i+1)=cntN p l i+(bif p l[i] then 1 else 0):=by
 simp only[cntN,List.take_succ_eq_append_getElem h,List.countP_append,List.countP_cons,List.countP_nil]
 cases p l[i]<;>simp
theorem cntN_le {α:Type} (p:α→Bool) (l:List α) (i:Nat):cntN p l i≤i:=by
 have:=List.countP_le_length (p:=p) (l:=l.take i)
 simp only[cntN,List.length_take] at*
 omega
def sumN {α:Type} (p:α→Bool) (g:α→Int) (l:List α) (i:Nat):Int:=((l.take i).map fun x=>bif p x then g x else 0).sum
theorem sumN_succ {α:Type} (p:α→Bool) (g:α→Int) {l:List α} {i:Nat} (h:i<l.length):sumN p g l (i+1)=sumN p g l i+(bif p l[i] then g l[i] else 0):=by
 unfold sumN
 rw[List.take_succ_eq_append_getElem h,List.map_append,List.sum_append]
 simp only[List.map_cons,List.map_nil,List.sum_cons,List.sum_nil,Int.add_zero]
theorem sumN_le {α:Type} (p:α→Bool) (g:α→Int) {l:List α} (hl:∀x,x∈l→0≤g x∧g x≤1000):∀i,i≤l.length→0≤sumN p g l i∧sumN p g l i≤1000*i
 |0,_=>by simp[sumN]
 |i+1,h=>by
  have ih:=sumN_le p g hl i (by omega)
  have h2:=hl _ (List.getElem_mem (show i<l.length by omega))
  rw[sumN_succ p g (by omega)]
  cases p l[i]<;>simp only[jR,jS]<;>omega
def togP (f:Fl) (c:Cp) (b:Bt) (x:Cp):Bool:=oth c x&&(sEq x.svc c.svc&&(sEq x.at_ b.name&&(x.apart !=0||c.apart !=0)||sEq (zoneOf f x.at_) b.zone&&(x.apart==2||c.apart==2)))
def nearP (f:Fl) (c:Cp) (b:Bt) (x:Cp):Bool:=oth c x&&(sEq x.svc c.near&&sEq (zoneOf f x.at_) b.zone)
def svcP (c:Cp) (s:Str) (x:Cp):Bool:=oth c x&&sEq x.svc s
def farB (f:Fl) (c:Cp) (b:Bt):Bool:=!sEq c.near (mkS [])&&(!f.cps.any (nearP f c b)&&(f.cps.any (svcP c c.near)||!sEq c.near c.svc))
def onP (c:Cp) (b:Bt) (x:Cp):Bool:=oth c x&&sEq x.at_ b.name
def fitsN (f:Fl) (c:Cp) (b:Bt) (o:Bool):Nat:=
 bif b.shut&&!o then 1 else bif !sEq c.fixed (mkS [])&&!sEq c.fixed b.name then 2 else bif !selM c.sel b then 3 else bif f.cps.any (togP f c b) then 4 else bif farB f c b then 5 else
 bif decide (10≤cntN (onP c b) f.cps f.cps.length) then 6 else bif decide (b.room<sumN (onP c b) Cp.room f.cps f.cps.length+c.room) then 7 else bif decide (b.hold<sumN (onP c b) Cp.hold f.cps f.cps.length+c.hold) then 8 else 0
theorem name_ne {b:Bt} (h:berthOk b=true) (s:Str) (hs:sEq s b.name=true):sEq s (mkS [])=false:=by
 cases h0:sEq s (mkS []) with
 |false=>rfl
 |true=>
  have e1:s=b.name:=by rw[sEq_iff] at hs;exact hs
  have e2:s=mkS []:=by rw[sEq_iff] at h0;exact h0
  rw[e2] at e1
  simp only[berthOk,Bool.and_eq_true] at h
  have h:=h.1
  rw[←e1] at h
  exact absurd h (by decide)
theorem cp_room {f:Fl} (h:VB f):∀x,x∈f.cps→0≤x.room∧x.room≤1000:=fun x hx=>(h.cb x hx).1
theorem cp_hold {f:Fl} (h:VB f):∀x,x∈f.cps→0≤x.hold∧x.hold≤1000:=fun x hx=>(h.cb x hx).2.1
theorem cp_apart {f:Fl} (h:VB f):∀x,x∈f.cps→0≤x.apart∧x.apart≤2:=fun x hx=>(h.cb x hx).2.2.1
theorem cps_60 {f:Fl} (h:VB f):f.cps.length≤60:=h.n60
end Go.Ev
namespace Go.Ev
section
variable {f:Fl} (hz:f.Sz 1048576) {c:Cp} (hc:c.Sz 1048576) {b:Bt} (hb:b.Sz 1048576) (hbo:berthOk b=true)
include hz hc hb hbo
theorem s_l3Together_eq:s_l3Together (f.e++c.e++b.e)=some [.b (f.cps.any (togP f c b))]:=by
 have hlc:f.cps.length<big:=by have:=hz.2.2.1;simp only[big];omega
 have h:=chk_loop (body:=ap23 s_l3Together.d3) (S:=fun i=>[C.i (i:Nat)]++f.e++c.e++b.e) (p:=fun j=>!at_P (togP f c b) f.cps j) (n:=f.cps.length) (b:=0) (ys:=[]) (r:=[.b true])
  (fun i hi=>by
   have e3:((i:Int)<(f.cps.length:Int)):=by omega
   have hzo:=s_l3ZoneOf_eq f f.cps[i].at_ hz
   simp only[Fl.e,jA,jB] at hzo
   have q1:(f.cps[i].name.toList==c.name.toList)=sEq f.cps[i].name c.name:=rfl
   have q2:(f.cps[i].at_.toList==(bs #[]).toList)=sEq f.cps[i].at_ (mkS []):=rfl
   have q3:(f.cps[i].at_.toList==b.name.toList)=sEq f.cps[i].at_ b.name:=rfl
   have q4:(f.cps[i].svc.toList==c.svc.toList)=sEq f.cps[i].svc c.svc:=rfl
   have q5:((zoneOf f f.cps[i].at_).toList==b.zone.toList)=sEq (zoneOf f f.cps[i].at_) b.zone:=rfl
   simp only[at_P_lt _ hi,togP,oth]
   simp only[Fl.e,Cp.e,Bt.e,jA,jB,apL,jC,jD,s_l3Together.d3,C.I_i,C.L_l,C.S_s,jW,jY,getD_map' Cp.e hi,e3,decide_true,jR,jX]
   simp only[Cp.e,jC,jD,C.S_s,C.I_i,q1,q2,q3,q4]
   cases sEq f.cps[i].name c.name with
   |true=>simp[s_l3Together.d2,w1 hi hlc]
   |false=>
    cases sEq f.cps[i].svc c.svc with
    |false=>simp[s_l3Together.d2,w1 hi hlc]
    |true=>
     cases sEq f.cps[i].at_ (mkS []) with
     |true=>simp[s_l3Together.d2,w1 hi hlc]
     |false=>
      cases h3:sEq f.cps[i].at_ b.name<;>cases h4:f.cps[i].apart !=0<;>cases h5:c.apart !=0<;>cases h6:sEq (zoneOf f f.cps[i].at_) b.zone<;>cases h7:f.cps[i].apart==2<;>cases h8:c.apart==2<;>
       simp only[ja,jZ,jR,jS,Bool.true_and,Bool.false_and,Bool.and_true,Bool.and_false,Bool.or_true,Bool.or_false,Bool.false_or,Bool.true_or,jJ,bindNrm_ret,bindBlk_ret,jC,jD,s_l3Together.d1,C.S_s,C.I_i,q5,h6,h7,h8,hzo,call1,jI,bindBlk_self,apL,s_l3Together.d2,w1 hi hlc])
  (by simp[s_l3Together.d3,Fl.e,Cp.e,Bt.e]) f.cps.length 0 rfl
 simp only[Fl.e,Cp.e,Bt.e,jA,jB,Int.natCast_zero,any_P] at h
 simp only[s_l3Together,s_l3Together.d5,Fl.e,Cp.e,Bt.e,jA,jB,apL,jC,jD]
 rw[h]
 cases f.cps.any (togP f c b)<;>simp[s_l3Together.d4]
theorem s_l3Far_eq:s_l3Far (f.e++c.e++b.e)=some [.b (farB f c b)]:=by
 have hlc:f.cps.length<big:=by have:=hz.2.2.1;simp only[big];omega
 have h:=chk_loop (body:=ap24 s_l3Far.d2) (S:=fun i=>[C.b (anyN (svcP c c.near) f.cps i),C.i (i:Nat)]++f.e++c.e++b.e) (p:=fun j=>!at_P (nearP f c b) f.cps j) (n:=f.cps.length) (b:=0) (ys:=.b (anyN (svcP c c.near) f.cps f.cps.length)::c.e) (r:=[.b false])
  (fun i hi=>by
   have e3:((i:Int)<(f.cps.length:Int)):=by omega
   have hzo:=s_l3ZoneOf_eq f f.cps[i].at_ hz
   simp only[Fl.e,jA,jB] at hzo
   have q1:(f.cps[i].name.toList==c.name.toList)=sEq f.cps[i].name c.name:=rfl
   have q2:(f.cps[i].at_.toList==(bs #[]).toList)=sEq f.cps[i].at_ (mkS []):=rfl
   have q4:(f.cps[i].svc.toList==c.near.toList)=sEq f.cps[i].svc c.near:=rfl
   have q5:((zoneOf f f.cps[i].at_).toList==b.zone.toList)=sEq (zoneOf f f.cps[i].at_) b.zone:=rfl
   simp only[at_P_lt _ hi,nearP,oth,anyN_succ _ hi]
   generalize anyN (svcP c c.near) f.cps i=q
   simp only[Fl.e,Cp.e,Bt.e,jA,jB,apL,jC,jD,s_l3Far.d2,C.I_i,C.L_l,C.S_s,jW,jY,getD_map' Cp.e hi,e3,decide_true,jR,jX,svcP,oth]
   simp only[Cp.e,jC,jD,C.S_s,C.I_i,q1,q2,q4]
   cases sEq f.cps[i].name c.name with
   |true=>simp[s_l3Far.d1,w1 hi hlc]
   |false=>
    cases sEq f.cps[i].svc c.near with
    |false=>simp[s_l3Far.d1,w1 hi hlc]
    |true=>
     cases sEq f.cps[i].at_ (mkS []) with
     |true=>simp[s_l3Far.d1,w1 hi hlc]
     |false=>cases h6:sEq (zoneOf f f.cps[i].at_) b.zone<;>simp[s_l3Far.d1,w1 hi hlc,hzo,call1,q5,h6])
  (by simp[s_l3Far.d2,Fl.e,Cp.e,Bt.e]) f.cps.length 0 rfl
 have h0:anyN (svcP c c.near) f.cps 0=false:=by simp[anyN]
 have q0:(c.near.toList==(bs #[]).toList)=sEq c.near (mkS []):=rfl
 have q1:(c.near.toList==c.svc.toList)=sEq c.near c.svc:=rfl
 simp only[Fl.e,Cp.e,Bt.e,jA,jB,Int.natCast_zero,any_P,h0,anyN_all] at h
 simp only[s_l3Far,s_l3Far.d4,Fl.e,Cp.e,Bt.e,jA,jB,apL,jC,jD,C.S_s,q0,farB]
 rw[h]
 cases sEq c.near (mkS [])<;>cases f.cps.any (nearP f c b)<;>cases f.cps.any (svcP c c.near)<;>simp[s_l3Far.d3,q1]
theorem s_l3Fits_eq (hv:VB f) (hr:0≤c.room∧c.room≤1000) (hh:0≤c.hold∧c.hold≤1000) (o:Bool):s_l3Fits (f.e++c.e++b.e++[.b o])=some [.i (fitsN f c b o:Nat)]:=by
 have hlc:f.cps.length<big:=by have:=hz.2.2.1;simp only[big];omega
 have h60:=cps_60 hv
 have h:=run_loop (body:=ap27 s_l3Fits.d2) (S:=fun i=>[C.b o,C.i (sumN (onP c b) Cp.room f.cps i+c.room),C.i (sumN (onP c b) Cp.hold f.cps i+c.hold),C.i (cntN (onP c b) f.cps i:Nat),C.i (i:Nat)]++f.e++c.e++b.e) (n:=f.cps.length) (b:=0)
  (ys:=[C.b o,C.i (sumN (onP c b) Cp.room f.cps f.cps.length+c.room),C.i (sumN (onP c b) Cp.hold f.cps f.cps.length+c.hold),C.i (cntN (onP c b) f.cps f.cps.length:Nat)]++f.e++c.e++b.e)
  (fun i hi=>by
   have e3:((i:Int)<(f.cps.length:Int)):=by omega
   have q1:(f.cps[i].name.toList==c.name.toList)=sEq f.cps[i].name c.name:=rfl
   have q3:(f.cps[i].at_.toList==b.name.toList)=sEq f.cps[i].at_ b.name:=rfl
   have b1:=sumN_le (onP c b) Cp.room (cp_room hv) i (by omega)
   have b2:=sumN_le (onP c b) Cp.hold (cp_hold hv) i (by omega)
   have b3:=cntN_le (onP c b) f.cps i
   have b4:=cp_room hv _ (List.getElem_mem hi)
   have b5:=cp_hold hv _ (List.getElem_mem hi)
   have w2:w64 (sumN (onP c b) Cp.room f.cps i+c.room+f.cps[i].room)=sumN (onP c b) Cp.room f.cps i+f.cps[i].room+c.room:=by rw[w64_of (by omega) (by omega)];omega
   have w3:w64 (sumN (onP c b) Cp.hold f.cps i+c.hold+f.cps[i].hold)=sumN (onP c b) Cp.hold f.cps i+f.cps[i].hold+c.hold:=by rw[w64_of (by omega) (by omega)];omega
   have w4:=w64n (n:=cntN (onP c b) f.cps i) (by omega)
   have hon:onP c b f.cps[i]=(!sEq f.cps[i].name c.name&&sEq f.cps[i].at_ b.name):=by
    unfold onP oth
    cases h3:sEq f.cps[i].at_ b.name with
    |true=>rw[name_ne hbo _ h3];simp
    |false=>simp
   simp only[Fl.e,Cp.e,Bt.e,jA,jB,apL,jC,jD,s_l3Fits.d2,C.I_i,C.L_l,C.S_s,jW,jY,getD_map' Cp.e hi,e3,decide_true,jR,jX,sumN_succ _ _ hi,cntN_succ _ hi,hon]
   simp only[Cp.e,jC,jD,C.S_s,C.I_i,q1,q3]
   cases sEq f.cps[i].name c.name<;>cases sEq f.cps[i].at_ b.name<;>simp[s_l3Fits.d1,w1 hi hlc,w2,w3,w4])
  (by simp[s_l3Fits.d2,Fl.e,Cp.e,Bt.e]) f.cps.length 0 rfl
 have z1:sumN (onP c b) Cp.room f.cps 0=0:=by simp[sumN]
 have z2:sumN (onP c b) Cp.hold f.cps 0=0:=by simp[sumN]
 have z3:cntN (onP c b) f.cps 0=0:=by simp[cntN]
 have hsel:=s_l3Select_eq c.sel b hc.2.2.1 hb hbo
 have hT:=s_l3Together_eq hz hc hb hbo
 have hF:=s_l3Far_eq hz hc hb hbo
 have q0:(c.fixed.toList==(bs #[]).toList)=sEq c.fixed (mkS []):=rfl
 have q1:(c.fixed.toList==b.name.toList)=sEq c.fixed b.name:=rfl
 simp only[Fl.e,Cp.e,Bt.e,jA,jB,Int.natCast_zero,z1,z2,z3,Int.zero_add] at h hsel hT hF
 simp only[s_l3Fits,s_l3Fits.d6,Fl.e,Cp.e,Bt.e,jA,jB,apL,jC,jD]
 rw[h]
 have e6:(10:Int)≤((cntN (onP c b) f.cps f.cps.length:Nat):Int)↔10≤cntN (onP c b) f.cps f.cps.length:=by omega
 simp only[bindBlk_self,apL,jC,jD,s_l3Fits.d5,C.B_b,fitsN]
 have fin:∀e:Bool,s_l3Fits.d3 (.i (sumN (onP c b) Cp.room f.cps f.cps.length+c.room)) (.i (sumN (onP c b) Cp.hold f.cps f.cps.length+c.hold)) (.i (cntN (onP c b) f.cps f.cps.length:Nat)) (.b e) (.b f.pack) (.l (f.bts.map Bt.e)) (.l (f.svs.map Sv.e)) (.l (f.cps.map Cp.e))
   (.s c.name) (.s c.svc) (.i c.rank) (.i c.born) (.i c.room) (.i c.hold) (.s c.sel) (.l (c.likes.map Lk.e)) (.i c.apart) (.s c.near) (.s c.fixed) (.s c.at_) (.s b.name) (.s b.zone) (.l (b.marks.map sE)) (.i b.room) (.i b.hold) (.b b.shut)=
   some (.ret [.i (((bif e then 2 else bif !selM c.sel b then 3 else bif f.cps.any (togP f c b) then 4 else bif farB f c b then 5 else
 bif decide (10≤cntN (onP c b) f.cps f.cps.length) then 6 else bif decide (b.room<sumN (onP c b) Cp.room f.cps f.cps.length+c.room) then 7 else bif decide (b.hold<sumN (onP c b) Cp.hold f.cps f.cps.length+c.hold) then 8 else 0:Nat):Nat):Int)]):=by
  intro e
  simp only[s_l3Fits.d3,C.B_b,C.I_i,hsel,hT,hF,call1,jI,jC,ge_iff_le,e6,gt_iff_lt]
  cases e
  ·simp only[jS]
   cases selM c.sel b
   ·rfl
   ·simp only[jZ,jS]
    cases f.cps.any (togP f c b)
    ·simp only[jS]
     cases farB f c b
     ·simp only[jS]
      cases decide (10≤cntN (onP c b) f.cps f.cps.length)
      ·simp only[jS]
       cases decide (b.room<sumN (onP c b) Cp.room f.cps f.cps.length+c.room)
       ·simp only[jS]
        cases decide (b.hold<sumN (onP c b) Cp.hold f.cps f.cps.length+c.hold)<;>rfl
       ·rfl
      ·rfl
     ·rfl
    ·rfl
  ·rfl
 generalize (bif !selM c.sel b then 3 else bif f.cps.any (togP f c b) then 4 else bif farB f c b then 5 else
 bif decide (10≤cntN (onP c b) f.cps f.cps.length) then 6 else bif decide (b.room<sumN (onP c b) Cp.room f.cps f.cps.length+c.room) then 7 else bif decide (b.hold<sumN (onP c b) Cp.hold f.cps f.cps.length+c.hold) then 8 else 0:Nat)=N at fin⊢
 cases hs:b.shut<;>rw[hs] at fin<;>cases o<;>cases h1:sEq c.fixed (mkS [])<;>cases h2:sEq c.fixed b.name<;>
  simp only[s_l3Fits.d4,q0,q1,h1,h2,fin,C.B_b,C.S_s,jR,jS,jZ,ja,Bool.and_true,Bool.and_false,Bool.true_and,Bool.false_and,jJ,apL,jC,jD,jV]<;>rfl
end
end Go.Ev
namespace Go.Ev
section
variable {f:Fl} (hz:f.Sz 1048576) {c:Cp} (hc:c.Sz 1048576) {b:Bt} (hb:b.Sz 1048576) (hbo:berthOk b=true)
include hz hc hb hbo
theorem i_fits_loop (hv:VB f) (hr:0≤c.room∧c.room≤1000) (hh:0≤c.hold∧c.hold≤1000) (ha:0≤c.apart∧c.apart≤2):lim (ap31 i_pFits.d4) ([C.b false,C.b false,C.i 0,C.i 0,C.i 0,C.b false,C.l (f.cps.map Cp.e),C.i ((f.cps.length:Nat):Int),C.i 0]++f.e++c.e++b.e)=
  some (.brk 0 ([C.b (anyN (nearP f c b) f.cps f.cps.length),C.b (anyN (svcP c c.svc) f.cps f.cps.length),C.i (cntN (onP c b) f.cps f.cps.length:Nat),C.i (sumN (onP c b) Cp.room f.cps f.cps.length),C.i (sumN (onP c b) Cp.hold f.cps f.cps.length),C.b (anyN (togP f c b) f.cps f.cps.length)]++c.e++b.e)):=by
 have hlc:f.cps.length<big:=by have:=hz.2.2.1;simp only[big];omega
 have h60:=cps_60 hv
 have h:=run_loop (body:=ap31 i_pFits.d4) (S:=fun i=>[C.b (anyN (nearP f c b) f.cps i),C.b (anyN (svcP c c.svc) f.cps i),C.i (cntN (onP c b) f.cps i:Nat),C.i (sumN (onP c b) Cp.room f.cps i),C.i (sumN (onP c b) Cp.hold f.cps i),C.b (anyN (togP f c b) f.cps i),C.l (f.cps.map Cp.e),C.i ((f.cps.length:Nat):Int),C.i (i:Nat)]++f.e++c.e++b.e) (n:=f.cps.length) (b:=0)
  (ys:=[C.b (anyN (nearP f c b) f.cps f.cps.length),C.b (anyN (svcP c c.svc) f.cps f.cps.length),C.i (cntN (onP c b) f.cps f.cps.length:Nat),C.i (sumN (onP c b) Cp.room f.cps f.cps.length),C.i (sumN (onP c b) Cp.hold f.cps f.cps.length),C.b (anyN (togP f c b) f.cps f.cps.length)]++c.e++b.e)
  (fun i hi=>by
   have e3:((i:Int)<(f.cps.length:Int)):=by omega
   have hzo:=i_pZone_eq f f.cps[i].at_ hz
   simp only[Fl.e,jA,jB] at hzo
   have q1:(f.cps[i].name.toList==c.name.toList)=sEq f.cps[i].name c.name:=rfl
   have q2:(f.cps[i].at_.toList==(bs #[]).toList)=sEq f.cps[i].at_ (mkS []):=rfl
   have q3:(f.cps[i].at_.toList==b.name.toList)=sEq f.cps[i].at_ b.name:=rfl
   have q4:(f.cps[i].svc.toList==c.svc.toList)=sEq f.cps[i].svc c.svc:=rfl
   have q6:(f.cps[i].svc.toList==c.near.toList)=sEq f.cps[i].svc c.near:=rfl
   have q5:((zoneOf f f.cps[i].at_).toList==b.zone.toList)=sEq (zoneOf f f.cps[i].at_) b.zone:=rfl
   have b1:=sumN_le (onP c b) Cp.room (cp_room hv) i (by omega)
   have b2:=sumN_le (onP c b) Cp.hold (cp_hold hv) i (by omega)
   have b3:=cntN_le (onP c b) f.cps i
   have b4:=cp_room hv _ (List.getElem_mem hi)
   have b5:=cp_hold hv _ (List.getElem_mem hi)
   have b6:=cp_apart hv _ (List.getElem_mem hi)
   have w2:w64 (sumN (onP c b) Cp.room f.cps i+f.cps[i].room)=sumN (onP c b) Cp.room f.cps i+f.cps[i].room:=by rw[w64_of (by omega) (by omega)]
   have w3:w64 (sumN (onP c b) Cp.hold f.cps i+f.cps[i].hold)=sumN (onP c b) Cp.hold f.cps i+f.cps[i].hold:=by rw[w64_of (by omega) (by omega)]
   have w4:=w64n (n:=cntN (onP c b) f.cps i) (by omega)
   have w5:decide (w64 (c.apart+f.cps[i].apart)>0)=(f.cps[i].apart !=0||c.apart !=0):=by
    rw[w64_of (by omega) (by omega),Bool.eq_iff_iff,decide_eq_true_eq,Bool.or_eq_true,bne_iff_ne,bne_iff_ne];omega
   simp only[anyN_succ _ hi,sumN_succ _ _ hi,cntN_succ _ hi]
   generalize anyN (nearP f c b) f.cps i=A1
   generalize anyN (svcP c c.svc) f.cps i=A2
   generalize anyN (togP f c b) f.cps i=A3
   generalize sumN (onP c b) Cp.room f.cps i=A4 at w2
   generalize sumN (onP c b) Cp.hold f.cps i=A5 at w3
   generalize cntN (onP c b) f.cps i=A6 at w4
   simp only[Fl.e,Cp.e,Bt.e,jA,jB,apL,jC,jD,i_pFits.d4,C.I_i,C.L_l,C.S_s,jW,jY,getD_map' Cp.e hi,e3,decide_true,jR,jX,nearP,svcP,togP,onP,oth]
   simp only[Cp.e,jC,jD,C.S_s,C.I_i,C.B_b,q1,q2,q3,q4,q5,w5,hzo,call1,jI]
   cases sEq f.cps[i].name c.name with
   |true=>simp[i_pFits.d3,w1 hi hlc]
   |false=>
    cases sEq f.cps[i].at_ (mkS []) with
    |true=>simp[i_pFits.d3,w1 hi hlc]
    |false=>
     simp only[ja,jR,jS,Bool.true_and]
     have fin:∀(t:Bool) (n:Bool),bindBlk 1 (i_pFits.d2 (.b A1) (.b n) (.i (A6:Nat)) (.i A4) (.i A5) (.b t) (.b (sEq (zoneOf f f.cps[i].at_) b.zone)) (.l (f.cps.map Cp.e)) (.i (f.cps.length:Nat)) (.i (i:Nat)) (.b f.pack) (.l (f.bts.map Bt.e)) (.l (f.svs.map Sv.e)) (.l (f.cps.map Cp.e))
       (.s c.name) (.s c.svc) (.i c.rank) (.i c.born) (.i c.room) (.i c.hold) (.s c.sel) (.l (c.likes.map Lk.e)) (.i c.apart) (.s c.near) (.s c.fixed) (.s c.at_) (.s b.name) (.s b.zone) (.l (b.marks.map sE)) (.i b.room) (.i b.hold) (.b b.shut)
       (.s f.cps[i].name) (.s f.cps[i].svc) (.i f.cps[i].rank) (.i f.cps[i].born) (.i f.cps[i].room) (.i f.cps[i].hold) (.s f.cps[i].sel) (.l (f.cps[i].likes.map Lk.e)) (.i f.cps[i].apart) (.s f.cps[i].near) (.s f.cps[i].fixed) (.s f.cps[i].at_)) (ap31 i_pFits.d3)=
       some (.again [.b (A1||(sEq f.cps[i].svc c.near&&sEq (zoneOf f f.cps[i].at_) b.zone)),.b n,.i ((A6+(bif sEq f.cps[i].at_ b.name then 1 else 0):Nat):Int),.i (A4+(bif sEq f.cps[i].at_ b.name then f.cps[i].room else 0)),.i (A5+(bif sEq f.cps[i].at_ b.name then f.cps[i].hold else 0)),.b t,.l (f.cps.map Cp.e),.i (f.cps.length:Nat),.i ((i+1:Nat):Int),.b f.pack,.l (f.bts.map Bt.e),.l (f.svs.map Sv.e),.l (f.cps.map Cp.e),
       .s c.name,.s c.svc,.i c.rank,.i c.born,.i c.room,.i c.hold,.s c.sel,.l (c.likes.map Lk.e),.i c.apart,.s c.near,.s c.fixed,.s c.at_,.s b.name,.s b.zone,.l (b.marks.map sE),.i b.room,.i b.hold,.b b.shut]):=by
      intro t n
      simp only[i_pFits.d2,C.B_b,C.S_s,q6]
      cases A1<;>cases sEq f.cps[i].svc c.near<;>cases sEq (zoneOf f f.cps[i].at_) b.zone<;>cases h3:sEq f.cps[i].at_ b.name<;>
       simp only[ja,jZ,jR,jS,jJ,jC,jD,i_pFits.d1,C.S_s,C.I_i,q3,h3,bindBlk_self,apL,i_pFits.d3,w1 hi hlc,w2,w3,w4,Bool.or_true,Bool.or_false,Bool.and_true,Bool.and_false,Bool.true_and,Bool.false_and,Int.add_zero,Nat.add_zero]
     cases h4:sEq f.cps[i].svc c.svc with
     |false=>simp only[jS,Bool.false_and,Bool.or_false,jJ,jC,jD,fin]
     |true=>
      have fin':=fun t:Bool=>fin t true
      cases A3<;>cases h3:sEq f.cps[i].at_ b.name<;>rw[h3] at fin'<;>cases hA:(f.cps[i].apart !=0||c.apart !=0)<;>cases h6:sEq (zoneOf f f.cps[i].at_) b.zone<;>rw[h6] at fin'<;>cases h8:c.apart==2<;>
       simp only[ja,jZ,jR,jS,Bool.true_and,Bool.false_and,Bool.and_true,Bool.and_false,Bool.or_true,Bool.or_false,Bool.false_or,Bool.true_or,jJ,jC,jD,fin'])
  (by simp[i_pFits.d4,Fl.e,Cp.e,Bt.e]) f.cps.length 0 rfl
 have z1:sumN (onP c b) Cp.room f.cps 0=0:=by simp[sumN]
 have z2:sumN (onP c b) Cp.hold f.cps 0=0:=by simp[sumN]
 have z3:cntN (onP c b) f.cps 0=0:=by simp[cntN]
 have z4:∀p:Cp→Bool,anyN p f.cps 0=false:=by simp[anyN]
 simp only[Int.natCast_zero,z1,z2,z3,z4] at h
 exact h
theorem i_pFits_eq (hv:VB f) (hr:0≤c.room∧c.room≤1000) (hh:0≤c.hold∧c.hold≤1000) (ha:0≤c.apart∧c.apart≤2) (o:Bool):i_pFits (f.e++c.e++b.e++[.b o])=some [.i (fitsN f c b (!o):Nat)]:=by
 have h60:=cps_60 hv
 have h:=i_fits_loop hz hc hb hbo hv hr hh ha
 have hsel:=i_pMeets_eq c.sel b hc.2.2.1 hb hbo
 have q0:(c.fixed.toList==(bs #[]).toList)=sEq c.fixed (mkS []):=rfl
 have q1:(c.fixed.toList==b.name.toList)=sEq c.fixed b.name:=rfl
 have q2:(c.near.toList==(bs #[]).toList)=sEq c.near (mkS []):=rfl
 have q3:(c.near.toList==c.svc.toList)=sEq c.near c.svc:=rfl
 have b1:=sumN_le (onP c b) Cp.room (cp_room hv) f.cps.length (by omega)
 have b2:=sumN_le (onP c b) Cp.hold (cp_hold hv) f.cps.length (by omega)
 have w2:w64 (sumN (onP c b) Cp.room f.cps f.cps.length+c.room)=sumN (onP c b) Cp.room f.cps f.cps.length+c.room:=by rw[w64_of (by omega) (by omega)]
 have w3:w64 (sumN (onP c b) Cp.hold f.cps f.cps.length+c.hold)=sumN (onP c b) Cp.hold f.cps f.cps.length+c.hold:=by rw[w64_of (by omega) (by omega)]
 have e6:(10:Int)≤((cntN (onP c b) f.cps f.cps.length:Nat):Int)↔10≤cntN (onP c b) f.cps f.cps.length:=by omega
 simp only[Fl.e,Cp.e,Bt.e,jA,jB,anyN_all] at h hsel
 have far:(!sEq c.near (mkS [])&&(!f.cps.any (nearP f c b)&&!(sEq c.near c.svc&&!f.cps.any (svcP c c.svc))))=farB f c b:=by
  unfold farB
  cases hn:sEq c.near c.svc with
  |true=>rw[(sEq_iff _ _).1 hn];simp
  |false=>simp
 have fin:i_pFits.d7 (.b f.pack) (.l (f.bts.map Bt.e)) (.l (f.svs.map Sv.e)) (.l (f.cps.map Cp.e))
   (.s c.name) (.s c.svc) (.i c.rank) (.i c.born) (.i c.room) (.i c.hold) (.s c.sel) (.l (c.likes.map Lk.e)) (.i c.apart) (.s c.near) (.s c.fixed) (.s c.at_) (.s b.name) (.s b.zone) (.l (b.marks.map sE)) (.i b.room) (.i b.hold) (.b b.shut)=
   some (.ret [.i (((bif !selM c.sel b then 3 else bif f.cps.any (togP f c b) then 4 else bif farB f c b then 5 else
 bif decide (10≤cntN (onP c b) f.cps f.cps.length) then 6 else bif decide (b.room<sumN (onP c b) Cp.room f.cps f.cps.length+c.room) then 7 else bif decide (b.hold<sumN (onP c b) Cp.hold f.cps f.cps.length+c.hold) then 8 else 0:Nat):Nat):Int)]):=by
  simp only[i_pFits.d7,hsel,call1,jI,jC,C.B_b,C.L_l,jW]
  cases selM c.sel b
  ·rfl
  simp only[jZ,jS]
  rw[h]
  simp only[bindBlk_self,apL,jC,jD,i_pFits.d6,C.B_b]
  cases f.cps.any (togP f c b)
  ·simp only[jS]
   have d5:∀e:Bool,i_pFits.d5 (.i (cntN (onP c b) f.cps f.cps.length:Nat)) (.i (sumN (onP c b) Cp.room f.cps f.cps.length)) (.i (sumN (onP c b) Cp.hold f.cps f.cps.length)) (.b e)
     (.s c.name) (.s c.svc) (.i c.rank) (.i c.born) (.i c.room) (.i c.hold) (.s c.sel) (.l (c.likes.map Lk.e)) (.i c.apart) (.s c.near) (.s c.fixed) (.s c.at_) (.s b.name) (.s b.zone) (.l (b.marks.map sE)) (.i b.room) (.i b.hold) (.b b.shut)=
     some (.ret [.i (((bif e then 5 else bif decide (10≤cntN (onP c b) f.cps f.cps.length) then 6 else bif decide (b.room<sumN (onP c b) Cp.room f.cps f.cps.length+c.room) then 7 else bif decide (b.hold<sumN (onP c b) Cp.hold f.cps f.cps.length+c.hold) then 8 else 0:Nat):Nat):Int)]):=by
    intro e
    simp only[i_pFits.d5,C.B_b,C.I_i,w2,w3,ge_iff_le,gt_iff_lt,e6]
    cases e
    ·simp only[jS]
     cases decide (10≤cntN (onP c b) f.cps f.cps.length)
     ·simp only[jS]
      cases decide (b.room<sumN (onP c b) Cp.room f.cps f.cps.length+c.room)
      ·simp only[jS]
       cases decide (b.hold<sumN (onP c b) Cp.hold f.cps f.cps.length+c.hold)<;>rfl
      ·rfl
     ·rfl
    ·rfl
   rw[←far]
   generalize (bif decide (10≤cntN (onP c b) f.cps f.cps.length) then 6 else bif decide (b.room<sumN (onP c b) Cp.room f.cps f.cps.length+c.room) then 7 else bif decide (b.hold<sumN (onP c b) Cp.hold f.cps f.cps.length+c.hold) then 8 else 0:Nat)=N at d5⊢
   simp only[C.S_s,q2,q3]
   cases sEq c.near (mkS [])<;>cases f.cps.any (nearP f c b)<;>cases sEq c.near c.svc<;>cases f.cps.any (svcP c c.svc)<;>
    simp only[jR,jS,jZ,ja,jJ,apL,jC,jD,d5,Bool.and_true,Bool.and_false,Bool.true_and,Bool.false_and]
  ·rfl
 simp only[i_pFits,i_pFits.d9,Fl.e,Cp.e,Bt.e,jA,jB,apL,jC,jD,C.B_b,fitsN]
 generalize (bif !selM c.sel b then 3 else bif f.cps.any (togP f c b) then 4 else bif farB f c b then 5 else
 bif decide (10≤cntN (onP c b) f.cps f.cps.length) then 6 else bif decide (b.room<sumN (onP c b) Cp.room f.cps f.cps.length+c.room) then 7 else bif decide (b.hold<sumN (onP c b) Cp.hold f.cps f.cps.length+c.hold) then 8 else 0:Nat)=N at fin⊢
 cases hs:b.shut<;>rw[hs] at fin<;>cases o<;>cases h1:sEq c.fixed (mkS [])<;>cases h2:sEq c.fixed b.name<;>
  simp only[i_pFits.d8,q0,q1,h1,h2,fin,C.B_b,C.S_s,jR,jS,jZ,ja,Bool.and_true,Bool.and_false,Bool.true_and,Bool.false_and,jJ,bindNrm_ret,apL,jC,jD,jV]<;>rfl
end
end Go.Ev
namespace Go.Ev
section
variable {f:Fl} (hz:f.Sz 1048576) (cn bn_:Str)
include hz
end
section
variable {f:Fl} (hz:f.Sz 1048576) {c:Cp} (hc:c.Sz 1048576) (hv:VB f) (hr:0≤c.room∧c.room≤1000) (hh:0≤c.hold∧c.hold≤1000) (ha:0≤c.apart∧c.apart≤2)
include hz hc hv hr hh ha
end
end Go.Ev
namespace Go.Ev
section
variable {f:Fl} (hz:f.Sz 1048576) {c:Cp} (hc:c.Sz 1048576) (hv:VB f) (hr:0≤c.room∧c.room≤1000) (hh:0≤c.hold∧c.hold≤1000) (ha:0≤c.apart∧c.apart≤2)
include hz hc hv hr hh ha
end
section
variable {f:Fl} (hz:f.Sz 1048576) (cn:Str)
include hz
end
end Go.Ev
namespace Go.Ev
theorem findIx_neg {α:Type} (p:α→Bool):∀(l:List α) (n:Nat),findIx p l n<0→l.any p=false
 |[],_,_=>rfl
 |x::r,n,h=>by
  simp only[findIx] at h
  cases hp:p x with
  |true=>rw[hp,jR] at h;omega
  |false=>rw[hp,jS] at h;simp[hp,findIx_neg p r (n+1) h]
section
variable {f:Fl} (hz:f.Sz 1048576)
include hz
end
end Go.Ev
namespace Go.Ev
def mkAll {α:Type} (mk:α→Int→α×Int):List α→Int→List α×Int
 |[],k=>([],k)
 |x::r,k=>((mk x k).1::(mkAll mk r (mk x k).2).1,(mkAll mk r (mk x k).2).2)
theorem mkAll_len {α:Type} (mk:α→Int→α×Int):∀(l:List α) (k:Int),(mkAll mk l k).1.length=l.length
 |[],_=>rfl
 |x::r,k=>by simp[mkAll,mkAll_len mk r]
theorem mkAll_up {α:Type} (mk:α→Int→α×Int) (D:Nat):∀(l:List α) (k:Int),(∀x,x∈l→∀k,k≤(mk x k).2∧(mk x k).2≤k+D)→k≤(mkAll mk l k).2∧(mkAll mk l k).2≤k+(l.length*D:Nat)
 |[],k,_=>by simp[mkAll]
 |x::r,k,h=>by
  have h1:=h x (by simp) k
  have h2:=mkAll_up mk D r (mk x k).2 fun y hy=>h y (by simp[hy])
  simp only[mkAll,List.length_cons,Nat.succ_mul]
  omega
theorem mark_loop {α:Type} {e:α→List C} {P:α→Prop} {K:Int} (mk:α→Int→α×Int) (D:Nat) {body:List C→R} {n:Nat} (hn:n≤1048576) (hD:D≤4294967296)
  (hb:∀(i:Nat) (x:α) (c:List (List C)) (k:Int),P x→i<n→c.length=n→c.getD i []=e x→0≤k→k≤K→body [.i k,.i i,.l c]=some (.again [.i (mk x k).2,.i (i+1:Nat),.l (c.set i (e (mk x k).1))]))
  (he:∀(k:Int) (c:List (List C)),c.length=n→body [.i k,.i n,.l c]=some (.brk 0 [.i k,.l c])):
  ∀(r:List α) (p:List (List C)) (k:Int),p.length+r.length=n→(∀x,x∈r→P x)→(∀x,x∈r→∀k,k≤(mk x k).2∧(mk x k).2≤k+D)→0≤k→k+(r.length*D:Nat)≤K→
   lim body [.i k,.i p.length,.l (p++r.map e)]=some (.brk 0 [.i (mkAll mk r k).2,.l (p++(mkAll mk r k).1.map e)])
 |[],p,k,h,_,_,_,_=>by
  simp only[List.length_nil,Nat.add_zero] at h
  have:=he k (p++([]:List α).map e) (by simp[h])
  rw[h]
  exact lim_brk this
 |x::r,p,k,h,hp,hm,k0,k1=>by
  simp only[List.length_cons,Nat.succ_mul] at h k1
  have hx:=hm x (by simp) k
  have hc:(p++(x::r).map e).length=n:=by simp;omega
  have hg:(p++(x::r).map e).getD p.length []=e x:=by
   rw[List.getD_eq_getElem?_getD,List.getElem?_append_right (Nat.le_refl _),Nat.sub_self];rfl
  have h1:=hb p.length x _ k (hp x (by simp)) (by omega) hc hg k0 (by omega)
  rw[lim_again h1]
  have hs:(p++(x::r).map e).set p.length (e (mk x k).1)=(p++[e (mk x k).1])++r.map e:=by
   rw[List.set_append_right _ _ (Nat.le_refl _),Nat.sub_self,List.map_cons,List.set_cons_zero,List.append_assoc];rfl
  have ih:=mark_loop mk D hn hD hb he r (p++[e (mk x k).1]) (mk x k).2 (by simp;omega) (fun y hy=>hp y (by simp[hy])) (fun y hy=>hm y (by simp[hy])) (by omega) (by omega)
  rw[List.length_append,List.length_singleton] at ih
  rw[hs,ih]
  simp[mkAll]
end Go.Ev
namespace Go.Ev
theorem mkBy1 (x:C):(mkBy [[x]]).size=1:=rfl
theorem mt_loop:∀(d:Nat) (k:Int) (o:Str),0≤k→k<10^d→k≤9000000000000000000→o.size+d≤1000→∃s:Str,lim (ap2 w_markText.d1) [.i k,.s o]=some (.brk 0 [.s s])∧s.size≤o.size+d
 |0,k,o,h0,h1,_,h2=>by
  have:k=0:=by simp at h1;omega
  subst this
  exact ⟨o,lim_brk (by simp[w_markText.d1]),by omega⟩
 |d+1,k,o,h0,h1,h3,h2=>by
  by_cases hk:k>0
  ·have e1:w64 (k.tdiv 10)=k/10:=by
    have:k.tdiv 10=k/10:=Int.tdiv_eq_ediv_of_nonneg h0
    rw[this,w64_of (by omega) (by omega)]
   have hs:((mkBy [[C.i (IntKind.wrap .u8 (w64 (48+k.tmod 10)))]])++o).size=1+o.size:=by rw[ByteArray.size_append,mkBy1]
   obtain ⟨s,h4,h5⟩:=mt_loop d (k/10) ((mkBy [[C.i (IntKind.wrap .u8 (w64 (48+k.tmod 10)))]])++o) (by omega) (by rw[Int.pow_succ] at h1;omega) (by omega) (by omega)
   refine ⟨s,?_,by omega⟩
   rw[←h4]
   refine lim_again ?_
   have:(mkBy [[C.i (IntKind.wrap .u8 (w64 (48+k.tmod 10)))]]).size+o.size≤4294967296:=by rw[mkBy1];omega
   simp only[w_markText.d1,apL,jC,jD,C.I_i,C.S_s,hk,decide_true,jR,e1,this]
  ·have:k=0:=by omega
   subst this
   exact ⟨o,lim_brk (by simp[w_markText.d1]),by omega⟩
noncomputable def mtx (k:Int):Str:=match w_markText [.i k] with|some [.s s]=>s|_=>mkS []
theorem mtx_eq {k:Int} (h0:0≤k) (h1:k≤9000000000000000000):w_markText [.i k]=some [.s (mtx k)]:=by
 have key:∃s,w_markText [.i k]=some [.s s]:=by
  by_cases hk:k≤0
  ·exact ⟨bs #[109,48],by simp only[w_markText,w_markText.d3,apL,jC,C.I_i,hk,decide_true,jR,jV]⟩
  ·obtain ⟨s,h2,h3⟩:=mt_loop 19 k (bs #[]) h0 (by omega) h1 (by decide)
   have h3:s.size≤19:=by have e:(bs #[]).size=0:=rfl;omega
   have:(bs #[109]).size+s.size≤4294967296:=by have:(bs #[109]).size=1:=rfl;omega
   exact ⟨bs #[109]++s,by simp only[w_markText,w_markText.d3,apL,jC,C.I_i,hk,decide_false,jS,h2,bindBlk_self,w_markText.d2,C.S_s,this,decide_true,jR,jV]⟩
 obtain ⟨s,h⟩:=key
 rw[h]
 simp[mtx,h]
end Go.Ev
namespace Go.Ev
noncomputable def mkStr (_:Str) (k:Int):Str×Int:=(mtx k,k+1)
theorem w_markStringS_eq (l:List Str) (k:Int) (hl:l.length≤1048576) (h0:0≤k) (h1:k≤8000000000000000000):
  w_markStringS [.i k,.l (l.map sE)]=some [.i (mkAll mkStr l k).2,.l ((mkAll mkStr l k).1.map sE)]:=by
 have h:=mark_loop (K:=8500000000000000000) (P:=fun _=>True) (e:=sE) mkStr 1 (body:=ap3 w_markStringS.d1) (n:=l.length) hl (by omega)
  (fun i x c k _ hi hc hg k0 k1=>by
   have e3:((i:Int)<(c.length:Int)):=by omega
   have e4:w64 (k+1)=k+1:=w64_of (by omega) (by omega)
   simp only[apL,jC,jD,w_markStringS.d1,C.I_i,C.L_l,e3,decide_true,jR,mtx_eq k0 (show k≤9000000000000000000 by omega),call1,jI,jX,jY,hg,e4,w1 hi (show l.length<big by simp only[big];omega)]
   simp[sE,setCs,mkStr])
  (fun k c hc=>by simp[w_markStringS.d1,hc]) l [] k (by simp) (fun _ _=>trivial) (fun x _ k=>by simp only[mkStr];omega) h0 (by simp;omega)
 simp only[List.length_nil,jB,Int.natCast_zero] at h
 simp only[w_markStringS,w_markStringS.d3,apL,jC,jD,C.L_l]
 rw[h]
 simp[w_markStringS.d2]
theorem held_loop {α:Type} {e:α→List C} {P:α→Prop} (mk:α→Int→α×Int) (D:Nat) {body:List C→R} {n:Nat} {L:List (List C)} {K:Int} (hn:n≤1048576) (hD:D≤4294967296)
  (hb:∀(i:Nat) (x:α) (k:Int),P x→i<n→L.getD i []=e (mk x k).1→0≤k→k≤K→body [.l L,.i k,.i i]=some (.again [.l L,.i (mk x k).2,.i (i+1:Nat)]))
  (he:∀(k:Int),body [.l L,.i k,.i n]=some (.brk 0 [.i k])):
  ∀(r:List α) (p:List (List C)) (k:Int),L=p++(mkAll mk r k).1.map e→p.length+r.length=n→(∀x,x∈r→P x)→(∀x,x∈r→∀k,k≤(mk x k).2∧(mk x k).2≤k+D)→0≤k→k+(r.length*D:Nat)≤K→
   lim body [.l L,.i k,.i p.length]=some (.brk 0 [.i (mkAll mk r k).2])
 |[],p,k,_,h,_,_,_,_=>by
  simp only[List.length_nil,Nat.add_zero] at h
  rw[h]
  exact lim_brk (he k)
 |x::r,p,k,hL,h,hp,hm,k0,k1=>by
  simp only[List.length_cons,Nat.succ_mul] at h k1
  have hx:=hm x (by simp) k
  have hg:L.getD p.length []=e (mk x k).1:=by
   rw[hL,List.getD_eq_getElem?_getD,List.getElem?_append_right (Nat.le_refl _),Nat.sub_self];rfl
  rw[lim_again (hb p.length x k (hp x (by simp)) (by omega) hg k0 (by omega))]
  have ih:=held_loop mk D hn hD hb he r (p++[e (mk x k).1]) (mk x k).2 (by rw[hL];simp[mkAll]) (by simp;omega) (fun y hy=>hp y (by simp[hy])) (fun y hy=>hm y (by simp[hy])) (by omega) (by omega)
  rw[List.length_append,List.length_singleton] at ih
  rw[ih]
  simp[mkAll]
theorem w_heldStringS_eq (l:List Str) (k:Int) (hl:l.length≤1048576) (h0:0≤k) (h1:k≤8000000000000000000):
  w_heldStringS [.l ((mkAll mkStr l k).1.map sE),.i k]=some [.i (mkAll mkStr l k).2]:=by
 have hlen:((mkAll mkStr l k).1.map sE).length=l.length:=by rw[jW,mkAll_len]
 have h:=held_loop (K:=8500000000000000000) (P:=fun _=>True) (e:=sE) mkStr 1 (body:=ap3 w_heldStringS.d1) (n:=l.length) (L:=(mkAll mkStr l k).1.map sE) hl (by omega)
  (fun i x k _ hi hg k0 k1=>by
   have e3:((i:Int)<(l.length:Int)):=by omega
   have e4:w64 (k+1)=k+1:=w64_of (by omega) (by omega)
   simp only[apL,jC,jD,w_heldStringS.d1,C.I_i,C.L_l,hlen,e3,decide_true,jR,mtx_eq k0 (show k≤9000000000000000000 by omega),call1,jI,jX,jY,hg,e4,w1 hi (show l.length<big by simp only[big];omega)]
   simp[sE,mkStr])
  (fun k=>by simp[w_heldStringS.d1,mkAll_len]) l [] k rfl (by simp) (fun _ _=>trivial) (fun x _ k=>by simp only[mkStr];omega) h0 (by simp;omega)
 simp only[List.length_nil,Int.natCast_zero] at h
 simp only[w_heldStringS,w_heldStringS.d3,apL,jC,jD,C.L_l]
 rw[h]
 simp[w_heldStringS.d2]
end Go.Ev
namespace Go.Ev
theorem set_get {α:Type} {c:List (List α)} {i:Nat} (h:i<c.length) (r:List α):(c.set i r).getD i []=r:=by
 rw[List.getD_eq_getElem?_getD,List.getElem?_set_self h];rfl
noncomputable def mkSv (_:Sv) (k:Int):Sv×Int:=(⟨mtx k,k+1⟩,k+2)
noncomputable def mkLk (_:Lk) (k:Int):Lk×Int:=(⟨mtx k,k+1⟩,k+2)
theorem w_markPilotServiceS_eq (l:List Sv) (k:Int) (hl:l.length≤1048576) (h0:0≤k) (h1:k≤8000000000000000000):
  w_markPilotServiceS [.i k,.l (l.map Sv.e)]=some [.i (mkAll mkSv l k).2,.l ((mkAll mkSv l k).1.map Sv.e)]:=by
 have h:=mark_loop (K:=8500000000000000000) (P:=fun _=>True) (e:=Sv.e) mkSv 2 (body:=ap3 w_markPilotServiceS.d1) (n:=l.length) hl (by omega)
  (fun i x c k _ hi hc hg k0 k1=>by
   have hic:i<c.length:=by omega
   have e3:((i:Int)<(c.length:Int)):=by omega
   have e4:w64 (k+1)=k+1:=w64_of (by omega) (by omega)
   have e5:w64 (k+1+1)=k+2:=by rw[w64_of (by omega) (by omega)];omega
   simp only[apL,jC,jD,w_markPilotServiceS.d1,C.I_i,C.L_l,e3,decide_true,jR,mtx_eq k0 (show k≤9000000000000000000 by omega),call1,jI,jX,jY,hg,e4,e5,w1 hi (show l.length<big by simp only[big];omega),List.length_set,set_get hic,List.set_set]
   simp[Sv.e,setCs,mkSv])
  (fun k c hc=>by simp[w_markPilotServiceS.d1,hc]) l [] k (by simp) (fun _ _=>trivial) (fun x _ k=>by simp only[mkSv];omega) h0 (by simp;omega)
 simp only[List.length_nil,jB,Int.natCast_zero] at h
 simp only[w_markPilotServiceS,w_markPilotServiceS.d3,apL,jC,jD,C.L_l]
 rw[h]
 simp[w_markPilotServiceS.d2]
theorem w_markPilotLikeS_eq (l:List Lk) (k:Int) (hl:l.length≤1048576) (h0:0≤k) (h1:k≤8000000000000000000):
  w_markPilotLikeS [.i k,.l (l.map Lk.e)]=some [.i (mkAll mkLk l k).2,.l ((mkAll mkLk l k).1.map Lk.e)]:=by
 have h:=mark_loop (K:=8500000000000000000) (P:=fun _=>True) (e:=Lk.e) mkLk 2 (body:=ap3 w_markPilotLikeS.d1) (n:=l.length) hl (by omega)
  (fun i x c k _ hi hc hg k0 k1=>by
   have hic:i<c.length:=by omega
   have e3:((i:Int)<(c.length:Int)):=by omega
   have e4:w64 (k+1)=k+1:=w64_of (by omega) (by omega)
   have e5:w64 (k+1+1)=k+2:=by rw[w64_of (by omega) (by omega)];omega
   simp only[apL,jC,jD,w_markPilotLikeS.d1,C.I_i,C.L_l,e3,decide_true,jR,mtx_eq k0 (show k≤9000000000000000000 by omega),call1,jI,jX,jY,hg,e4,e5,w1 hi (show l.length<big by simp only[big];omega),List.length_set,set_get hic,List.set_set]
   simp[Lk.e,setCs,mkLk])
  (fun k c hc=>by simp[w_markPilotLikeS.d1,hc]) l [] k (by simp) (fun _ _=>trivial) (fun x _ k=>by simp only[mkLk];omega) h0 (by simp;omega)
 simp only[List.length_nil,jB,Int.natCast_zero] at h
 simp only[w_markPilotLikeS,w_markPilotLikeS.d3,apL,jC,jD,C.L_l]
 rw[h]
 simp[w_markPilotLikeS.d2]
end Go.Ev
namespace Go.Ev
theorem w64_up {k:Int} (h0:0≤k) (h1:k≤9000000000000000000):w64 (k+1)=k+1:=w64_of (by omega) (by omega)
theorem setCs_s (a:C) (l:List C) (n:Nat) (m:List C):setCs (a::l) (n+1) m=a::setCs l n m:=by
 have e:n+1+m.length=n+m.length+1:=by omega
 simp only[setCs,List.take_succ_cons,jA,e,List.drop_succ_cons]
theorem setCs_z (a x:C) (l:List C):setCs (a::l) 0 [x]=x::l:=rfl
noncomputable def mkBt (b:Bt) (k:Int):Bt×Int:=
 (⟨mtx k,mtx (k+1),(mkAll mkStr b.marks (k+1+1)).1,(mkAll mkStr b.marks (k+1+1)).2,(mkAll mkStr b.marks (k+1+1)).2+1,((mkAll mkStr b.marks (k+1+1)).2+1+1).tmod 3==0⟩,(mkAll mkStr b.marks (k+1+1)).2+1+1+1)
theorem mkStr_up (l:List Str) (k:Int):k≤(mkAll mkStr l k).2∧(mkAll mkStr l k).2≤k+(l.length:Nat):=by
 have:=mkAll_up mkStr 1 l k (fun x _ k=>by simp only[mkStr];omega)
 omega
theorem mkLk_up (l:List Lk) (k:Int):k≤(mkAll mkLk l k).2∧(mkAll mkLk l k).2≤k+(l.length*2:Nat):=
 mkAll_up mkLk 2 l k (fun x _ k=>by simp only[mkLk];omega)
theorem w_markPilotBerthS_eq (l:List Bt) (k:Int) (hl:l.length≤1048576) (hm:∀b,b∈l→b.marks.length≤1048576) (h0:0≤k) (h1:k≤7000000000000000000):
  w_markPilotBerthS [.i k,.l (l.map Bt.e)]=some [.i (mkAll mkBt l k).2,.l ((mkAll mkBt l k).1.map Bt.e)]:=by
 have h:=mark_loop (K:=7900000000000000000) (P:=fun b:Bt=>b.marks.length≤1048576) (e:=Bt.e) mkBt 1048581 (body:=ap3 w_markPilotBerthS.d3) (n:=l.length) hl (by omega)
  (fun i x c k hx hi hc hg k0 k1=>by
   have hic:i<c.length:=by omega
   have e3:((i:Int)<(c.length:Int)):=by omega
   have hk:=mkStr_up x.marks (k+1+1)
   have hs:=w_markStringS_eq x.marks (k+1+1) hx (by omega) (by omega)
   simp (disch:=omega) only[apL,jC,jD,w_markPilotBerthS.d3,w_markPilotBerthS.d2,w_markPilotBerthS.d1,C.I_i,C.L_l,e3,decide_true,jR,mtx_eq,call1,call2,jI,jJ,jX,jY,hg,w64_up,List.length_set,set_get,List.set_set,Bt.e,setCs_s,setCs_z,hs]
   simp (disch:=omega) [Bt.e,setCs,mkBt,hs,w1,w64_up])
  (fun k c hc=>by simp[w_markPilotBerthS.d3,hc]) l [] k (by simp) hm (fun x hx k=>by have:=mkStr_up x.marks (k+1+1);have:=hm x hx;simp only[mkBt];omega) h0 (by simp;omega)
 simp only[List.length_nil,jB,Int.natCast_zero] at h
 simp only[w_markPilotBerthS,w_markPilotBerthS.d5,apL,jC,jD,C.L_l]
 rw[h]
 simp[w_markPilotBerthS.d4]
noncomputable def mkCp (c:Cp) (k:Int):Cp×Int:=
 (⟨mtx k,mtx (k+1),k+1+1,k+1+1+1,k+1+1+1+1,k+1+1+1+1+1,mtx (k+1+1+1+1+1+1),(mkAll mkLk c.likes (k+1+1+1+1+1+1+1)).1,(mkAll mkLk c.likes (k+1+1+1+1+1+1+1)).2,mtx ((mkAll mkLk c.likes (k+1+1+1+1+1+1+1)).2+1),mtx ((mkAll mkLk c.likes (k+1+1+1+1+1+1+1)).2+1+1),mtx ((mkAll mkLk c.likes (k+1+1+1+1+1+1+1)).2+1+1+1)⟩,(mkAll mkLk c.likes (k+1+1+1+1+1+1+1)).2+1+1+1+1)
theorem w_markPilotCopyS_eq (l:List Cp) (k:Int) (hl:l.length≤1048576) (hm:∀c,c∈l→c.likes.length≤1048576) (h0:0≤k) (h1:k≤7000000000000000000):
  w_markPilotCopyS [.i k,.l (l.map Cp.e)]=some [.i (mkAll mkCp l k).2,.l ((mkAll mkCp l k).1.map Cp.e)]:=by
 have h:=mark_loop (K:=7900000000000000000) (P:=fun c:Cp=>c.likes.length≤1048576) (e:=Cp.e) mkCp 2097170 (body:=ap3 w_markPilotCopyS.d5) (n:=l.length) hl (by omega)
  (fun i x c k hx hi hc hg k0 k1=>by
   have hic:i<c.length:=by omega
   have e3:((i:Int)<(c.length:Int)):=by omega
   have hk:=mkLk_up x.likes (k+1+1+1+1+1+1+1)
   have hs:=w_markPilotLikeS_eq x.likes (k+1+1+1+1+1+1+1) hx (by omega) (by omega)
   simp (disch:=omega) only[apL,jC,jD,w_markPilotCopyS.d5,w_markPilotCopyS.d4,w_markPilotCopyS.d3,w_markPilotCopyS.d2,w_markPilotCopyS.d1,C.I_i,C.L_l,e3,decide_true,jR,mtx_eq,call1,call2,jI,jJ,jX,jY,hg,w64_up,List.length_set,set_get,List.set_set,Cp.e,setCs_s,setCs_z,hs]
   simp (disch:=omega) [mkCp,w1,w64_up])
  (fun k c hc=>by simp[w_markPilotCopyS.d5,hc]) l [] k (by simp) hm (fun x hx k=>by have:=mkLk_up x.likes (k+1+1+1+1+1+1+1);have:=hm x hx;simp only[mkCp];omega) h0 (by simp;omega)
 simp only[List.length_nil,jB,Int.natCast_zero] at h
 simp only[w_markPilotCopyS,w_markPilotCopyS.d7,apL,jC,jD,C.L_l]
 rw[h]
 simp[w_markPilotCopyS.d6]
noncomputable def mkFl (f:Fl) (k:Int):Fl×Int:=
 (⟨f.pack,(mkAll mkBt f.bts k).1,(mkAll mkSv f.svs (mkAll mkBt f.bts k).2).1,(mkAll mkCp f.cps (mkAll mkSv f.svs (mkAll mkBt f.bts k).2).2).1⟩,(mkAll mkCp f.cps (mkAll mkSv f.svs (mkAll mkBt f.bts k).2).2).2)
theorem mkFl_up {f:Fl} (hz:f.Sz 1048576) {k:Int} (h0:0≤k):(k≤(mkAll mkBt f.bts k).2∧(mkAll mkBt f.bts k).2≤k+1099528000000)∧((mkAll mkBt f.bts k).2≤(mkAll mkSv f.svs (mkAll mkBt f.bts k).2).2∧(mkAll mkSv f.svs (mkAll mkBt f.bts k).2).2≤k+1099628000000)∧((mkAll mkSv f.svs (mkAll mkBt f.bts k).2).2≤(mkFl f k).2∧(mkFl f k).2≤k+9999999999999):=by
 have a:=mkAll_up mkBt 1048581 f.bts k (fun x hx k=>by have:=mkStr_up x.marks (k+1+1);have:=(hz.1.2 x hx).2.2.1;simp only[mkBt];omega)
 have b:=mkAll_up mkSv 2 f.svs (mkAll mkBt f.bts k).2 (fun x hx k=>by simp only[mkSv];omega)
 have c:=mkAll_up mkCp 2097170 f.cps (mkAll mkSv f.svs (mkAll mkBt f.bts k).2).2 (fun x hx k=>by have:=mkLk_up x.likes (k+1+1+1+1+1+1+1);have:=(hz.2.2.2 x hx).2.2.2.2.2.2.1;simp only[mkCp];omega)
 have:=hz.1.1;have:=hz.2.1.1;have:=hz.2.2.1
 have e1:f.bts.length*1048581≤1048576*1048581:=Nat.mul_le_mul_right _ hz.1.1
 have e3:f.cps.length*2097170≤1048576*2097170:=Nat.mul_le_mul_right _ hz.2.2.1
 simp only[mkFl]
 omega
theorem w_markPilotFleet_eq {f:Fl} (hz:f.Sz 1048576) {k:Int} (h0:0≤k) (h1:k≤1000000000000000000):
  w_markPilotFleet [.b f.pack,.i k,.l (f.bts.map Bt.e),.l (f.svs.map Sv.e),.l (f.cps.map Cp.e)]=some ([.i (mkFl f k).2,.l ((mkFl f k).1.bts.map Bt.e),.l ((mkFl f k).1.svs.map Sv.e),.l ((mkFl f k).1.cps.map Cp.e)]):=by
 obtain ⟨u1,u2,u3⟩:=mkFl_up hz h0
 have a:=w_markPilotBerthS_eq f.bts k hz.1.1 (fun x hx=>(hz.1.2 x hx).2.2.1) h0 (by omega)
 have b:=w_markPilotServiceS_eq f.svs (mkAll mkBt f.bts k).2 hz.2.1.1 (by omega) (by omega)
 have c:=w_markPilotCopyS_eq f.cps (mkAll mkSv f.svs (mkAll mkBt f.bts k).2).2 hz.2.2.1 (fun x hx=>(hz.2.2.2 x hx).2.2.2.2.2.2.1) (by omega) (by omega)
 simp only[w_markPilotFleet,w_markPilotFleet.d1,apL,jC,jD,C.L_l,a,b,c,call2,jI,jV,mkFl]
end Go.Ev
namespace Go.Ev
end Go.Ev
namespace Go.Ev
theorem ltL {i n:Nat} (h:i<n):decide ((i:Int)<(n:Int))=true:=by simp;omega
end Go.Ev
namespace Go.Ev
theorem snoc_take {α:Type} (e:α→List C) {l:List α} {i:Nat} (h:i<l.length):(l.take i).map e++[e l[i]]=(l.take (i+1)).map e:=by
 rw[List.take_succ_eq_append_getElem h,List.map_append];rfl
theorem i_pCloneBerth_eq {b:Bt} (h:b.marks.length≤1048576):i_pCloneBerth b.e=some b.o:=by
 have:b.marks.length≤4294967296:=by omega
 simp[i_pCloneBerth,i_pCloneBerth.d1,Bt.e,Bt.o,this]
theorem s_l2BerthOf_eq {b:Bt} (h:b.marks.length≤1048576):s_l2BerthOf b.e=some b.o:=by
 have:b.marks.length≤4294967296:=by omega
 simp[s_l2BerthOf,s_l2BerthOf.d1,Bt.e,Bt.o,this]
theorem i_pCloneCopy_eq {c:Cp} (h:c.likes.length≤1048576):i_pCloneCopy c.e=some c.o:=by
 have:c.likes.length≤4294967296:=by omega
 simp[i_pCloneCopy,i_pCloneCopy.d1,Cp.e,Cp.o,this]
theorem s_l2CopyOf_eq {c:Cp} (h:c.likes.length≤1048576):s_l2CopyOf c.e=some c.o:=by
 have:c.likes.length≤4294967296:=by omega
 simp[s_l2CopyOf,s_l2CopyOf.d1,Cp.e,Cp.o,this]
section
variable {f:Fl} (hz:f.Sz 1048576)
include hz
theorem i_pClone_eq:i_pClone f.e=some f.e:=by
 have hlb:f.bts.length<big:=by have:=hz.1.1;simp only[big];omega
 have hlc:f.cps.length<big:=by have:=hz.2.2.1;simp only[big];omega
 have h1:=run_loop (body:=ap15 i_pClone.d1) (S:=fun i=>[C.l (f.bts.map Bt.e),C.i (f.bts.length:Nat),C.i (i:Nat)]++f.e++[C.b false,C.b f.pack,.l nils,.l nils,.l nils,C.l ((f.bts.take i).map Bt.e),C.l (f.svs.map Sv.e),.l nils]) (n:=f.bts.length) (b:=0) (ys:=f.e++[C.b false,C.b f.pack,.l nils,.l nils,.l nils,C.l ((f.bts.take f.bts.length).map Bt.e),C.l (f.svs.map Sv.e),.l nils])
  (fun i hi=>by
   have hc:=i_pCloneBerth_eq (hz.1.2 _ (List.getElem_mem hi)).2.2.1
   have hn:(f.bts.take i).length+1≤4294967296:=by rw[List.length_take];have:=hz.1.1;omega
   have sn:=snoc_take Bt.e hi
   simp only[Bt.e,Bt.o] at hc
   simp only[Fl.e,jA,jB,apL,jC,jD,i_pClone.d1,C.I_i,C.L_l,jW,jY,getD_map' Bt.e hi,ltL hi,decide_true,jR,jX,w1 hi hlb]
   simp only[Bt.e] at sn
   simp only[Bt.e,jC,jD,hc,call6,jI,C.L_l,rows,List.length_cons,List.length_nil,Nat.zero_add,hn,decide_true,jR,sn])
  (by simp[i_pClone.d1,Fl.e]) f.bts.length 0 rfl
 have h2:=run_loop (body:=ap11 i_pClone.d2) (S:=fun i=>[C.l (f.cps.map Cp.e),C.i (f.cps.length:Nat),C.i (i:Nat)]++[C.b false,C.b f.pack,.l nils,.l nils,.l nils,C.l (f.bts.map Bt.e),C.l (f.svs.map Sv.e),C.l ((f.cps.take i).map Cp.e)]) (n:=f.cps.length) (b:=2) (ys:=[C.b false,C.b f.pack,.l nils,.l nils,.l nils,C.l (f.bts.map Bt.e),C.l (f.svs.map Sv.e),C.l ((f.cps.take f.cps.length).map Cp.e)])
  (fun i hi=>by
   have hc:=i_pCloneCopy_eq (hz.2.2.2 _ (List.getElem_mem hi)).2.2.2.2.2.2.1
   have hn:(f.cps.take i).length+1≤4294967296:=by rw[List.length_take];have:=hz.2.2.1;omega
   have sn:=snoc_take Cp.e hi
   simp only[Cp.e,Cp.o] at hc
   simp only[jA,jB,apL,jC,jD,i_pClone.d2,C.I_i,C.L_l,jW,jY,getD_map' Cp.e hi,ltL hi,decide_true,jR,jX,w1 hi hlc]
   simp only[Cp.e] at sn
   simp only[Cp.e,jC,jD,hc,call12,jI,C.L_l,rows,List.length_cons,List.length_nil,Nat.zero_add,hn,decide_true,jR,sn])
  (by simp[i_pClone.d2]) f.cps.length 0 rfl
 have hs:f.svs.length≤4294967296:=by have:=hz.2.1.1;omega
 simp only[Fl.e,jA,jB,Int.natCast_zero,List.take_zero,List.map_nil,List.take_length] at h1 h2
 simp only[i_pClone,i_pClone.d5,Fl.e,apL,jC,jD,C.L_l,C.B_b,jW,hs,decide_true,jR]
 rw[show nils=([]:List (List C)) from rfl] at h1 h2⊢
 rw[h1]
 simp only[bindBlk_self,apL,jC,jD,i_pClone.d4,C.L_l,jW]
 rw[h2]
 simp[i_pClone.d3]
theorem s_l2Fleet_eq:s_l2Fleet f.e=some f.e:=by
 have hlb:f.bts.length<big:=by have:=hz.1.1;simp only[big];omega
 have hlc:f.cps.length<big:=by have:=hz.2.2.1;simp only[big];omega
 have h1:=run_loop (body:=ap13 s_l2Fleet.d1) (S:=fun i=>[C.i (i:Nat)]++f.e++[C.b false,C.b f.pack,.l nils,.l nils,.l nils,C.l ((f.bts.take i).map Bt.e),C.l (f.svs.map Sv.e),.l nils]) (n:=f.bts.length) (b:=0) (ys:=f.e++[C.b false,C.b f.pack,.l nils,.l nils,.l nils,C.l ((f.bts.take f.bts.length).map Bt.e),C.l (f.svs.map Sv.e),.l nils])
  (fun i hi=>by
   have hc:=s_l2BerthOf_eq (hz.1.2 _ (List.getElem_mem hi)).2.2.1
   have hn:(f.bts.take i).length+1≤4294967296:=by rw[List.length_take];have:=hz.1.1;omega
   have sn:=snoc_take Bt.e hi
   simp only[Bt.e,Bt.o] at hc
   simp only[Fl.e,jA,jB,apL,jC,jD,s_l2Fleet.d1,C.I_i,C.L_l,jW,jY,getD_map' Bt.e hi,ltL hi,decide_true,jR,jX,w1 hi hlb]
   simp only[Bt.e] at sn
   simp only[Bt.e,jC,jD,hc,call6,jI,C.L_l,rows,List.length_cons,List.length_nil,Nat.zero_add,hn,decide_true,jR,sn])
  (by simp[s_l2Fleet.d1,Fl.e]) f.bts.length 0 rfl
 have h2:=run_loop (body:=ap13 s_l2Fleet.d2) (S:=fun i=>[C.i (i:Nat)]++f.e++[C.b false,C.b f.pack,.l nils,.l nils,.l nils,C.l (f.bts.map Bt.e),C.l (f.svs.map Sv.e),C.l ((f.cps.take i).map Cp.e)]) (n:=f.cps.length) (b:=2) (ys:=[C.b false,C.b f.pack,.l nils,.l nils,.l nils,C.l (f.bts.map Bt.e),C.l (f.svs.map Sv.e),C.l ((f.cps.take f.cps.length).map Cp.e)])
  (fun i hi=>by
   have hc:=s_l2CopyOf_eq (hz.2.2.2 _ (List.getElem_mem hi)).2.2.2.2.2.2.1
   have hn:(f.cps.take i).length+1≤4294967296:=by rw[List.length_take];have:=hz.2.2.1;omega
   have sn:=snoc_take Cp.e hi
   simp only[Cp.e,Cp.o] at hc
   simp only[Fl.e,jA,jB,apL,jC,jD,s_l2Fleet.d2,C.I_i,C.L_l,jW,jY,getD_map' Cp.e hi,ltL hi,decide_true,jR,jX,w1 hi hlc]
   simp only[Cp.e] at sn
   simp only[Cp.e,jC,jD,hc,call12,jI,C.L_l,rows,List.length_cons,List.length_nil,Nat.zero_add,hn,decide_true,jR,sn])
  (by simp[s_l2Fleet.d2,Fl.e]) f.cps.length 0 rfl
 have hs:0+f.svs.length≤4294967296:=by have:=hz.2.1.1;omega
 simp only[Fl.e,jA,jB,Int.natCast_zero,List.take_zero,List.map_nil,List.take_length] at h1 h2
 rw[show nils=([]:List (List C)) from rfl] at h1 h2
 simp only[s_l2Fleet,s_l2Fleet.d5,Fl.e,apL,jC,jD,C.L_l,C.B_b,jW,show nils=([]:List (List C)) from rfl,List.length_nil,hs,decide_true,jR,jB]
 rw[h1]
 simp only[bindBlk_self,apL,jC,jD,s_l2Fleet.d4,C.L_l,jW]
 rw[h2]
 simp[s_l2Fleet.d3]
end
end Go.Ev
namespace Go.Ev
theorem bytesLess_trans:∀(a b c:List UInt8),Op.bytesLess a b=true→Op.bytesLess b c=true→Op.bytesLess a c=true
 |_,_,[],_,h2=>by cases ‹List UInt8›<;>simp[Op.bytesLess] at h2
 |_,[],_::_,h1,_=>by simp[Op.bytesLess] at h1
 |[],_::_,_::_,_,_=>by simp[Op.bytesLess]
 |x::a,y::b,z::c,h1,h2=>by
  simp only[Op.bytesLess,Bool.or_eq_true,Bool.and_eq_true,decide_eq_true_eq,beq_iff_eq] at h1 h2⊢
  have lt (p q:UInt8):p<q↔p.toNat<q.toNat:=Iff.rfl
  simp only[lt] at h1 h2⊢
  rcases h1 with h1|⟨rfl,h1⟩
  ·rcases h2 with h2|⟨rfl,h2⟩
   ·left;omega
   ·left;exact h1
  ·rcases h2 with h2|⟨rfl,h2⟩
   ·left;exact h2
   ·right;exact ⟨rfl,bytesLess_trans a b c h1 h2⟩
theorem bytesLess_irr:∀(a:List UInt8),Op.bytesLess a a=false
 |[]=>rfl
 |x::r=>by
  have ih:=bytesLess_irr r
  simp only[Op.bytesLess,ih]
  simp
theorem sLt_irr (a:Str):sLt a a=false:=bytesLess_irr _
theorem sLt_trans {a b c:Str} (h1:sLt a b=true) (h2:sLt b c=true):sLt a c=true:=bytesLess_trans _ _ _ h1 h2
theorem adj_lt {α:Type} {lt:α→α→Bool} {l:List α} (ht:∀a b c,lt a b=true→lt b c=true→lt a c=true) (h:∀i (h:i+1<l.length),lt (l[i]'(by omega)) l[i+1]=true):
  ∀(d i:Nat) (hj:i+d+1<l.length),lt (l[i]'(by omega)) l[i+d+1]=true
 |0,i,hj=>h i hj
 |d+1,i,hj=>ht _ _ _ (adj_lt ht h d i (by omega)) (h (i+d+1) (by omega))
def UniqF (l:List Cp):Prop:=∀(i k:Nat) (hi:i<l.length) (hk:k<l.length),sEq l[i].name l[k].name=true→i=k
theorem names_up {f:Fl} (h:validF f=true) (d i:Nat) (hj:i+d+1<f.cps.length):sLt (f.cps[i]'(by omega)).name f.cps[i+d+1].name=true:=by
 refine adj_lt (lt:=fun a b:Cp=>sLt a.name b.name) (fun a b c=>sLt_trans) (fun i hi=>?_) d i hj
 simp only[validF,Bool.and_eq_true] at h
 have:=(allFrom_iff _ _ _).1 h.2.2.2.2.1 (i+1) (Nat.zero_le _) (by omega)
 have hi':i<f.cps.length:=by omega
 have e:(i+1==0)=false:=rfl
 simp only[cpA,List.getElem?_eq_getElem hi,Nat.add_sub_cancel,List.getElem?_eq_getElem hi',e,Bool.false_or,Bool.and_eq_true] at this
 exact this.2.2.1
theorem uniq_of {f:Fl} (h:validF f=true):UniqF f.cps:=by
 have key:∀(i k:Nat) (hi:i<f.cps.length) (hk:k<f.cps.length),i<k→sEq f.cps[i].name f.cps[k].name=true→False:=by
  intro i k hi hk hlt he
  obtain ⟨d,rfl⟩:∃d,k=i+d+1:=⟨k-i-1,by omega⟩
  have:=names_up h d i hk
  rw[(sEq_iff _ _).1 he,sLt_irr] at this
  exact absurd this (by decide)
 intro i k hi hk he
 rcases Nat.lt_trichotomy i k with h1|h1|h1
 ·exact (key i k hi hk h1 he).elim
 ·exact h1
 ·exact (key k i hk hi h1 (by rw[sEq_comm];exact he)).elim
def upTo {α:Type} (g:α→α) (l:List α) (i:Nat):List α:=(l.take i).map g++l.drop i
theorem upTo_len {α:Type} (g:α→α) (l:List α) (i:Nat):(upTo g l i).length=l.length:=by simp[upTo];omega
theorem upTo_get {α:Type} (g:α→α) {l:List α} {i:Nat} (h:i<l.length):(upTo g l i)[i]?=some l[i]:=by
 simp only[upTo]
 rw[List.getElem?_append_right (by simp;omega)]
 simp[Nat.min_eq_left (Nat.le_of_lt h),h]
theorem upTo_set {α:Type} (g:α→α) {l:List α} {i:Nat} (h:i<l.length):(upTo g l i).set i (g l[i])=upTo g l (i+1):=by
 have hl:((l.take i).map g).length=i:=by simp;omega
 simp only[upTo]
 rw[List.set_append_right _ _ (by omega),hl,Nat.sub_self,List.drop_eq_getElem_cons h,List.set_cons_zero,List.take_succ_eq_append_getElem h,List.map_append,List.append_assoc]
 rfl
theorem upTo_same {α:Type} (g:α→α) {l:List α} {i:Nat} (h:i<l.length) (e:g l[i]=l[i]):upTo g l (i+1)=upTo g l i:=by
 rw[←upTo_set g h,e]
 refine List.ext_getElem? fun j=>?_
 rw[List.getElem?_set]
 split
 ·rename_i h1
  subst h1
  rw[upTo_len,if_pos h,upTo_get g h]
 ·rfl
theorem upTo_all {α:Type} (g:α→α) (l:List α):upTo g l l.length=l.map g:=by simp[upTo]
theorem getD_of {α:Type} (e:α→List C) {l:List α} {i:Nat} {x:α} (h:l[i]?=some x):(l.map e).getD i []=e x:=by
 rw[List.getD_eq_getElem?_getD,List.getElem?_map,h];rfl
def inS (g:List Str) (s:Str):Bool:=g.any fun x=>sEq s x
theorem slices_Index_string_eq (g:List Str) (s:Str) (hg:g.length≤1048576):slices_Index_string [.l (g.map sE),.s s]=some [.i (findIx (fun x=>sEq s x) g 0)]:=by
 have h:=find_loop (l:=g) (body:=ap4 slices_Index_string.d1) (S:=fun i=>[.l (g.map sE),.s s,.i (g.length:Nat),.i (i:Nat)]) (p:=fun x=>sEq s x) (b:=0)
  (fun i hi=>by
   simp only[apL,jC,jD,slices_Index_string.d1,C.I_i,C.L_l,C.S_s,jW,jY,getD_map' sE hi,w1 hi (show g.length<big by simp only[big];omega),ltL hi,jR,jX,decide_true]
   simp only[sE,jC,C.S_s]
   show (bif sEq s g[i] then _ else _)=_
   cases sEq s g[i]<;>rfl)
  (by simp[slices_Index_string.d1]) g.length 0 rfl
 simp only[slices_Index_string,slices_Index_string.d3,apL,jC,jD,C.L_l,jW]
 rw[show (fun xs:List C=>slices_Index_string.d2)=fun _=>some (.ret [.i (-1)]) from rfl]
 simp only[Int.natCast_zero,List.drop_zero] at h
 rw[h];rfl
theorem slices_Contains_string_eq (g:List Str) (s:Str) (hg:g.length≤1048576):slices_Contains_string [.l (g.map sE),.s s]=some [.b (inS g s)]:=by
 have:decide (findIx (fun x=>sEq s x) g 0≥0)=inS g s:=by
  have:=findIx_any (fun x=>sEq s x) g 0
  unfold inS
  rw[←Bool.not_not (b:=g.any _),←this,←decide_not,decide_eq_decide]
  omega
 simp only[slices_Contains_string,slices_Contains_string.d1,apL,jC,jD,slices_Index_string_eq g s hg,call1,jI,C.I_i,this,jV]
def goC (g:List Str) (c:Cp):Cp:=bif inS g c.name then {c with at_:=mkS []} else c
def goF (f:Fl) (g:List Str):Fl:= {f with cps:=f.cps.map (goC g)}
theorem goF_sz {f:Fl} (hz:f.Sz 1048576) (g:List Str):(goF f g).Sz 1048576:=by
 refine ⟨hz.1,hz.2.1,by simp only[goF,jW];exact hz.2.2.1,fun c hc=>?_⟩
 simp only[goF,List.mem_map] at hc
 obtain ⟨x,hx,rfl⟩:=hc
 have:=hz.2.2.2 x hx
 unfold goC
 cases inS g x.name with
 |false=>exact this
 |true=>exact ⟨this.1,this.2.1,this.2.2.1,this.2.2.2.1,this.2.2.2.2.1,(by simp[mkS];decide),this.2.2.2.2.2.2⟩
theorem goF_vb {f:Fl} (h:VB f) (g:List Str):VB (goF f g):=by
 refine ⟨by simp only[goF,jW];exact h.n60,fun c hc=>?_,h.bb⟩
 simp only[goF,List.mem_map] at hc
 obtain ⟨x,hx,rfl⟩:=hc
 have:=h.cb x hx
 unfold goC
 cases inS g x.name<;>exact this
section
variable {f:Fl} (hz:f.Sz 1048576) (g:List Str) (hg:g.length≤1048576)
include hz hg
theorem i_pGo_eq:i_pGo (f.e++[.l (g.map sE)])=some (goF f g).e:=by
 have hc:=i_pClone_eq hz
 have hlc:f.cps.length<big:=by have:=hz.2.2.1;simp only[big];omega
 have h:=run_loop (body:=ap11 i_pGo.d1) (S:=fun i=>[C.l (g.map sE),C.i (f.cps.length:Nat),C.i (i:Nat),C.b false,C.b f.pack,.l nils,.l nils,.l nils,C.l (f.bts.map Bt.e),C.l (f.svs.map Sv.e),C.l ((upTo (goC g) f.cps i).map Cp.e)]) (n:=f.cps.length) (b:=0) (ys:=[C.b false,C.b f.pack,.l nils,.l nils,.l nils,C.l (f.bts.map Bt.e),C.l (f.svs.map Sv.e),C.l ((upTo (goC g) f.cps f.cps.length).map Cp.e)])
  (fun i hi=>by
   have hx:=getD_of Cp.e (upTo_get (goC g) hi)
   have hk:=slices_Contains_string_eq g f.cps[i].name hg
   simp only[apL,jC,jD,i_pGo.d1,C.I_i,C.L_l,jW,upTo_len,jY,hx,ltL hi,decide_true,jR,jX,w1 hi hlc]
   simp only[Cp.e,jC,hk,call1,jI,C.B_b]
   cases hin:inS g f.cps[i].name with
   |false=>
    rw[upTo_same (goC g) hi (by simp[goC,hin])];rfl
   |true=>
    rw[←upTo_set (goC g) hi,List.map_set]
    simp[goC,hin,Cp.e,setCs,show bs #[]=mkS [] from rfl])
  (by simp[i_pGo.d1,upTo_len]) f.cps.length 0 rfl
 simp only[Fl.e,Int.natCast_zero,upTo_all] at h hc
 have h0:upTo (goC g) f.cps 0=f.cps:=by simp[upTo]
 rw[h0] at h
 simp only[i_pGo,i_pGo.d3,Fl.e,jA,jB,apL,jC,jD,hc,call4,jI,C.L_l,jW,h,bindBlk_self,i_pGo.d2,jV,goF]
theorem s_l6Without_eq (hu:UniqF f.cps) (hin:∀j (h:j<g.length),∃k,∃hk:k<f.cps.length,cIx f g[j]=(k:Nat)∧sEq f.cps[k].name g[j]=true):s_l6Without (f.e++[.l (g.map sE)])=some (goF f g).e:=by
 have hc:=s_l2Fleet_eq hz
 have hlg:g.length<big:=by simp only[big];omega
 have h:=run_loop (body:=ap10 s_l6Without.d1) (S:=fun i=>[C.l (g.map sE),C.i (i:Nat),C.b false,C.b f.pack,.l nils,.l nils,.l nils,C.l (f.bts.map Bt.e),C.l (f.svs.map Sv.e),C.l ((goF f (g.take i)).cps.map Cp.e)]) (n:=g.length) (b:=0) (ys:=[C.b false,C.b f.pack,.l nils,.l nils,.l nils,C.l (f.bts.map Bt.e),C.l (f.svs.map Sv.e),C.l ((goF f (g.take g.length)).cps.map Cp.e)])
  (fun j hj=>by
   obtain ⟨k,hk,e1,e2⟩:=hin j hj
   have hlen:(goF f (g.take j)).cps.length=f.cps.length:=by simp[goF]
   have hix:cIx (goF f (g.take j)) g[j]=cIx f g[j]:=by
    unfold cIx goF
    generalize f.cps=l
    generalize 0=n
    induction l generalizing n with
    |nil=>rfl
    |cons x r ih=>
     have:(goC (g.take j) x).name=x.name:=by unfold goC;cases inS (g.take j) x.name<;>rfl
     simp only[List.map_cons,findIx,this,ih]
   have hs:=s_l2Copy_eq (goF f (g.take j)) g[j] (goF_sz hz _).2.2.1
   rw[hix,e1] at hs
   have hkc:(goF f (g.take j)).cps[k]?=some (goC (g.take j) f.cps[k]):=by simp[goF,hk]
   have hx:=getD_of Cp.e hkc
   simp only[Fl.e,jA,jB,show (goF f (g.take j)).pack=f.pack from rfl,show (goF f (g.take j)).bts=f.bts from rfl,show (goF f (g.take j)).svs=f.svs from rfl] at hs
   simp only[apL,jC,jD,s_l6Without.d1,C.I_i,C.L_l,jW,jY,getD_map' sE hj,ltL hj,decide_true,jR,jX,w1 hj hlg]
   simp only[sE,jC,hs,call1,jI,C.I_i,jX,decide_true,jR,hlen,ltL hk,jY,hx]
   have hfin:((goF f (g.take j)).cps.map Cp.e).set k (setCs (goC (g.take j) f.cps[k]).e 11 [.s (bs #[])])=(goF f (g.take (j+1))).cps.map Cp.e:=by
    have e3:setCs (goC (g.take j) f.cps[k]).e 11 [.s (bs #[])]=({f.cps[k] with at_:=mkS []}:Cp).e:=by
     unfold goC
     cases inS (g.take j) f.cps[k].name<;>rfl
    rw[e3]
    refine List.ext_getElem? fun m=>?_
    rw[List.getElem?_set]
    simp only[jW,hlen]
    split
    ·rename_i h1
     subst h1
     have:inS (g.take (j+1)) f.cps[k].name=true:=by
      unfold inS
      rw[List.take_succ_eq_append_getElem hj,List.any_append]
      simp[e2]
     simp[hk,goF,goC,this]
    ·rename_i h1
     rcases Nat.lt_or_ge m f.cps.length with hm|hm
     ·have:inS (g.take (j+1)) f.cps[m].name=inS (g.take j) f.cps[m].name:=by
       unfold inS
       rw[List.take_succ_eq_append_getElem hj,List.any_append]
       have:sEq f.cps[m].name g[j]=false:=by
        cases hq:sEq f.cps[m].name g[j] with
        |false=>rfl
        |true=>
         rw[←(sEq_iff _ _).1 e2] at hq
         exact absurd (hu m k hm hk hq).symm h1
       simp[this]
      simp[hm,goF,goC,this]
     ·simp[goF,hm]
   rw[hfin])
  (by simp[s_l6Without.d1]) g.length 0 rfl
 have h0:(goF f (g.take 0)).cps=f.cps:=by
  simp only[goF,List.take_zero]
  have:goC []=id:=by funext c;rfl
  rw[this,List.map_id]
 simp only[Fl.e,Int.natCast_zero,h0,List.take_length] at h hc
 simp only[s_l6Without,s_l6Without.d3,Fl.e,jA,jB,apL,jC,jD,hc,call4,jI,C.L_l,jW,h,bindBlk_self,s_l6Without.d2,jV]
 rfl
end
end Go.Ev
namespace Go.Ev
structure Sp where
 copy:Str
 berth:Str
 gone:List Str
def Sp.e (s:Sp):List C:=[.s s.copy,.s s.berth,.l (s.gone.map sE)]
def Sp.Sz (K:Nat) (s:Sp):Prop:=s.copy.size≤K∧s.berth.size≤K∧SsSz K s.gone
theorem goC_same {g:List Str} {c:Cp} (h:sEq c.at_ (mkS [])=true):goC g c=c:=by
 unfold goC
 cases inS g c.name with
 |false=>rfl
 |true=>
  have:=(sEq_iff _ _).1 h
  cases c
  simp only[jR] at this⊢
  rw[this]
section
variable {f:Fl} (hz:f.Sz 1048576) {s:Sp} (hs:s.Sz 1048576)
include hz hs
end
end Go.Ev
namespace Go.Ev
end Go.Ev
namespace Go.Ev
def insN (r:Int) (l:List Int):Nat:=(l.takeWhile fun x=>decide (x≥r)).length
def insD (r:Int) (l:List Int):List Int:=l.take (insN r l)++r::l.drop (insN r l)
def insAll (l:List Int):List Int:=l.foldl (fun a r=>insD r a) []
theorem takeN {α:Type} (p:α→Bool):∀l:List α,l.take (l.takeWhile p).length=l.takeWhile p∧l.drop (l.takeWhile p).length=l.dropWhile p
 |[]=>⟨rfl,rfl⟩
 |x::r=>by
  have ih:=takeN p r
  cases h:p x<;>simp[List.takeWhile,List.dropWhile,h,ih]
theorem insN_le (r:Int) (l:List Int):insN r l≤l.length:=(List.takeWhile_sublist _).length_le
theorem insD_perm (r:Int) (l:List Int):(insD r l).Perm (r::l):=by
 have h:=List.perm_middle (a:=r) (l₁:=l.take (insN r l)) (l₂:=l.drop (insN r l))
 rw[List.take_append_drop] at h
 exact h
theorem pw_takeWhile {p:Int→Bool} {R:Int→Int→Prop}:∀ {l:List Int},(∀x,x∈l.takeWhile p→p x=true)
 |[],x,h=>by simp at h
 |y::r,x,h=>by
  cases hp:p y with
  |false=>simp[List.takeWhile,hp] at h
  |true=>
   simp only[List.takeWhile,hp,List.mem_cons] at h
   rcases h with rfl|h
   ·exact hp
   ·exact pw_takeWhile (R:=R) x h
theorem insD_sorted (r:Int) {l:List Int} (h:l.Pairwise (·≥·)):(insD r l).Pairwise (·≥·):=by
 obtain ⟨e1,e2⟩:=takeN (fun x:Int=>decide (x≥r)) l
 unfold insD insN
 rw[e1,e2]
 have h0:=h
 rw[←List.takeWhile_append_dropWhile (p:=fun x:Int=>decide (x≥r)) (l:=l),List.pairwise_append] at h0
 obtain ⟨h1,h2,h3⟩:=h0
 refine List.pairwise_append.2 ⟨h1,List.pairwise_cons.2 ⟨fun y hy=>?_,h2⟩,fun x hx y hy=>?_⟩
 ·cases hd:l.dropWhile (fun x:Int=>decide (x≥r)) with
  |nil=>rw[hd] at hy;simp at hy
  |cons z t=>
   have hz:¬z≥r:=by
    have:=List.head_dropWhile_not (p:=fun x:Int=>decide (x≥r)) (l:=l) (by rw[hd];simp)
    simp only[hd,List.head_cons,decide_eq_false_iff_not] at this
    exact this
   rw[hd] at hy h2
   rcases List.mem_cons.1 hy with rfl|hy
   ·omega
   ·have:=(List.pairwise_cons.1 h2).1 y hy
    omega
 ·have hx':x≥r:=by simpa using pw_takeWhile (R:=(·≥·)) x hx
  rcases List.mem_cons.1 hy with rfl|hy
  ·exact hx'
  ·exact h3 x hx y hy
theorem insAll_ok:∀(l a:List Int),a.Pairwise (·≥·)→(l.foldl (fun a r=>insD r a) a).Pairwise (·≥·)∧(l.foldl (fun a r=>insD r a) a).Perm (l++a)
 |[],a,h=>⟨h,.refl _⟩
 |r::l,a,h=>by
  obtain ⟨h1,h2⟩:=insAll_ok l (insD r a) (insD_sorted r h)
  exact ⟨h1,h2.trans (((insD_perm r a).append_left l).trans List.perm_middle)⟩
theorem harm_eq (l:List Int):(sortI l).reverse=insAll l:=by
 obtain ⟨h1,h2⟩:=insAll_ok l [] .nil
 rw[List.append_nil] at h2
 refine List.Perm.eq_of_pairwise (le:=(·≥·)) (fun a b _ _ h1 h2=>by omega) ?_ h1 (((sortI l).reverse_perm.trans (List.mergeSort_perm l _)).trans h2.symm)
 rw[List.pairwise_reverse]
 have:=List.pairwise_mergeSort (le:=fun x y:Int=>decide (x≤y)) (fun a b c h1 h2=>by simp at*;omega) (fun a b=>by simp;omega) l
 exact this.imp fun {a b} h=>by simpa using h
theorem insAll_snoc (l:List Int) (r:Int):insAll (l++[r])=insD r (insAll l):=by simp[insAll,List.foldl_append]
theorem insAll_len (l:List Int):(insAll l).length=l.length:=by
 have:=(insAll_ok l [] .nil).2.length_eq
 simpa [insAll] using this
def revAt (l:List Int) (k m:Nat):Int:=if m<k∨l.length-k≤m then l.getD (l.length-1-m) 0 else l.getD m 0
def revUp (l:List Int) (k:Nat):List Int:=(List.range l.length).map (revAt l k)
theorem revUp_get (l:List Int) (k:Nat) {m:Nat} (h:m<l.length):(revUp l k)[m]?=some (revAt l k m):=by simp[revUp,h]
theorem revUp_len (l:List Int) (k:Nat):(revUp l k).length=l.length:=by simp[revUp]
theorem revUp_0 (l:List Int):revUp l 0=l:=by
 refine List.ext_getElem? fun m=>?_
 rcases Nat.lt_or_ge m l.length with h|h
 ·rw[revUp_get l 0 h]
  have:¬(m<0∨l.length-0≤m):=by omega
  unfold revAt
  rw[if_neg this]
  simp[h]
 ·simp[revUp,h]
theorem revUp_end (l:List Int):revUp l (l.length/2)=l.reverse:=by
 refine List.ext_getElem? fun m=>?_
 rcases Nat.lt_or_ge m l.length with h|h
 ·rw[revUp_get l _ h,List.getElem?_reverse h]
  unfold revAt
  split
  ·have:l.length-1-m<l.length:=by omega
   simp[this]
  ·have:l.length-1-m=m:=by omega
   simp[this,h]
 ·simp[revUp,h]
theorem slices_Reverse_int_eq (l:List Int) (hl:l.length≤4294967296):slices_Reverse_int [.l (l.map iE)]=some [.l (l.reverse.map iE)]:=by
 have h:=run_loop (body:=ap3 slices_Reverse_int.d1) (S:=fun k=>[C.i (k:Nat),C.i ((l.length:Int)-1-k),C.l ((revUp l k).map iE)]) (n:=l.length/2) (b:=0) (ys:=[C.l ((revUp l (l.length/2)).map iE)])
  (fun k hk=>by
   have hj:((l.length:Int)-1-k)=((l.length-1-k:Nat):Int):=by omega
   have k1:k<l.length:=by omega
   have k2:l.length-1-k<l.length:=by omega
   have lt:((k:Int)<((l.length-1-k:Nat):Int)):=by omega
   have g1:=getD_of iE (revUp_get l k k1)
   have g2:=getD_of iE (revUp_get l k k2)
   have a1:revAt l k k=l.getD k 0:=by
    unfold revAt;rw[if_neg (by omega)]
   have a2:revAt l k (l.length-1-k)=l.getD (l.length-1-k) 0:=by
    unfold revAt;rw[if_neg (by omega)]
   have wk:w64 ((k:Int)+1)=((k+1:Nat):Int):=by rw[w64_of (by omega) (by omega)];omega
   have wj:w64 (((l.length-1-k:Nat):Int)-1)=(l.length:Int)-1-((k+1:Nat):Int):=by rw[w64_of (by omega) (by omega)];omega
   have hset:(((revUp l k).map iE).set k (iE (l.getD (l.length-1-k) 0))).set (l.length-1-k) (iE (l.getD k 0))=(revUp l (k+1)).map iE:=by
    rw[←List.map_set,←List.map_set]
    congr 1
    refine List.ext_getElem? fun m=>?_
    rcases Nat.lt_or_ge m l.length with hm|hm
    ·rw[revUp_get l (k+1) hm,List.getElem?_set,List.getElem?_set]
     simp only[List.length_set,revUp_len,k1,k2,if_true]
     split
     ·rename_i e;subst e
      unfold revAt
      rw[if_pos (by omega)]
      have:l.length-1-(l.length-1-k)=k:=by omega
      rw[this]
     ·split
      ·rename_i e;subst e
       unfold revAt
       rw[if_pos (by omega)]
      ·rw[revUp_get l k hm]
       unfold revAt
       congr 1
       by_cases q:m<k∨l.length-k≤m
       ·rw[if_pos q,if_pos (by omega)]
       ·rw[if_neg q,if_neg (by omega)]
    ·simp[revUp,hm]
   simp only[hj,apL,jC,jD,slices_Reverse_int.d1,C.I_i,C.L_l,lt,decide_true,jR,jX,jW,List.length_set,revUp_len,ltL k1,ltL k2,jY,g1,g2,a1,a2,wk,wj]
   have s1:setCs (iE (l.getD k 0)) 0 [(iE (l.getD (l.length-1-k) 0)).getD 0 C.nil]=iE (l.getD (l.length-1-k) 0):=rfl
   rw[s1]
   have g3:(((revUp l k).map iE).set k (iE (l.getD (l.length-1-k) 0))).getD (l.length-1-k) []=iE (l.getD (l.length-1-k) 0):=by
    rw[List.getD_eq_getElem?_getD,List.getElem?_set_ne (by omega),←List.getD_eq_getElem?_getD,g2,a2]
   rw[g3]
   have s2:setCs (iE (l.getD (l.length-1-k) 0)) 0 [(iE (l.getD k 0)).getD 0 C.nil]=iE (l.getD k 0):=rfl
   rw[s2,hset])
  (by
   have:¬(((l.length/2:Nat):Int)<(l.length:Int)-1-((l.length/2:Nat):Int)):=by omega
   simp only[apL,jC,jD,slices_Reverse_int.d1,C.I_i,C.L_l,this,decide_false,jS]) (l.length/2) 0 rfl
 have w0:w64 ((l.length:Int)-1)=(l.length:Int)-1:=w64_of (by omega) (by omega)
 simp only[Int.natCast_zero,Int.sub_zero,revUp_0,revUp_end] at h
 simp only[slices_Reverse_int,slices_Reverse_int.d3,apL,jC,C.L_l,jW,w0,h,bindBlk_self,slices_Reverse_int.d2,jV]
theorem sortIF_eq (l:List Int) (hl:l.length≤4294967296):slices_Sort_int [.l (l.map iE)]=some [.l ((sortI l).map iE)]:=by
 have:intsOf (l.map iE)=l:=by
  have:(fun r:List C=>(r.getD 0 .nil).I)∘iE=id:=rfl
  rw[intsOf,List.map_map,this,List.map_id]
 simp only[slices_Sort_int,sortIF,jC,C.L_l,jW,hl,decide_true,jR,this]
end Go.Ev
namespace Go.Ev
def rankOf (f:Fl) (s:Str):Int:=match f.cps[(cIx f s).toNat]? with|some c=>c.rank|none=>0
def thereA (f:Fl) (g:List Str) (j:Nat):Bool:=decide (0≤cIx f (sAt g j))
def ranksOf (f:Fl) (g:List Str):List Int:=g.map (rankOf f)
theorem rank_at {f:Fl} {g:List Str} {j:Nat} (hj:j<g.length):(thereA f g j=false∧cIx f g[j]<0)∨(thereA f g j=true∧∃k,∃hk:k<f.cps.length,cIx f g[j]=(k:Nat)∧rankOf f g[j]=f.cps[k].rank):=by
 rw[thereA,sAt_get hj]
 rcases cIx_at f g[j] with h|⟨k,hk,h,_⟩
 ·exact .inl ⟨by simp;omega,h⟩
 ·exact .inr ⟨by rw[h];simp,k,hk,h,by simp[rankOf,h,hk]⟩
theorem ranks_succ (f:Fl) {g:List Str} {j:Nat} (hj:j<g.length):ranksOf f (g.take (j+1))=ranksOf f (g.take j)++[rankOf f g[j]]:=by
 rw[ranksOf,List.take_succ_eq_append_getElem hj,List.map_append];rfl
theorem ranks_len (f:Fl) (g:List Str) (j:Nat):(ranksOf f (g.take j)).length≤g.length:=by
 rw[ranksOf,jW,List.length_take];omega
section
variable {f:Fl} (hz:f.Sz 1048576) (g:List Str) (hg:SsSz 1048576 g)
include hz hg
theorem ins_loop (r:Int) (l:List Int) (hl:l.length≤1048576) (a b c:C):lim (ap9 s_l6Harm.d1) ([a,b,.i r,.i 0]++f.e++[.l (l.map iE)])=some (.brk 2 ([a,b,.i r,.i (insN r l:Nat)]++f.e++[.l (l.map iE)])):=by
 have hlb:l.length<big:=by simp only[big];omega
 have hle:=insN_le r l
 obtain ⟨e1,e2⟩:=takeN (fun x:Int=>decide (x≥r)) l
 have h:=run_loop (body:=ap9 s_l6Harm.d1) (S:=fun k=>[a,b,.i r,.i (k:Nat)]++f.e++[C.l (l.map iE)]) (n:=insN r l) (b:=2) (ys:=[a,b,.i r,.i (insN r l:Nat)]++f.e++[C.l (l.map iE)])
  (fun k hk=>by
   have hk':k<l.length:=by omega
   have hge:l[k]≥r:=by
    have h1:(l.takeWhile fun x:Int=>decide (x≥r))[k]'hk=l[k]:=by
     have:=(List.takeWhile_prefix (fun x:Int=>decide (x≥r)) (l:=l)).getElem hk
     exact this
    have:=pw_takeWhile (p:=fun x:Int=>decide (x≥r)) (R:=(·≥·)) _ (List.getElem_mem hk)
    rw[h1] at this
    simpa using this
   simp only[Fl.e,jA,jB,apL,jC,jD,s_l6Harm.d1,C.I_i,C.L_l,jW,ltL hk',decide_true,jR,jX,jY,getD_map' iE hk',w1 hk' hlb]
   simp only[iE,jC,C.I_i,hge,decide_true,jR])
  (by
   simp only[Fl.e,jA,jB,apL,jC,jD,s_l6Harm.d1,C.I_i,C.L_l,jW]
   rcases Nat.lt_or_ge (insN r l) l.length with h|h
   ·have hlt:¬l[insN r l]≥r:=by
     have hd:l.drop (insN r l)=l.dropWhile fun x:Int=>decide (x≥r):=e2
     have hne:l.dropWhile (fun x:Int=>decide (x≥r))≠[]:=by rw[←hd];intro h0;rw[List.drop_eq_nil_iff] at h0;omega
     have:=List.head_dropWhile_not (p:=fun x:Int=>decide (x≥r)) (l:=l) hne
     have h5:(l.drop (insN r l)).head (by rw[hd];exact hne)=l[insN r l]:=by simp[List.head_drop]
     simp only[←hd,h5,decide_eq_false_iff_not] at this
     exact this
    simp only[ltL h,decide_true,jR,jX,jY,getD_map' iE h]
    simp only[iE,jC,C.I_i,hlt,decide_false,jS]
   ·have:¬(((insN r l:Nat):Int)<(l.length:Int)):=by omega
    simp only[this,decide_false,jS]) (insN r l) 0 rfl
 exact h
theorem s_l6Harm_eq (ht:allFrom (thereA f g) 0 g.length=true):s_l6Harm (f.e++[.l (g.map sE)])=some [.l ((insAll (ranksOf f g)).map iE)]:=by
 have hgl:g.length<big:=by have:=hg.1;simp only[big];omega
 have h:=run_loop (body:=ap7 s_l6Harm.d3) (S:=fun k=>[C.l (g.map sE),C.i (k:Nat)]++f.e++[C.l ((insAll (ranksOf f (g.take k))).map iE)]) (n:=g.length) (b:=0) (ys:=[C.l ((insAll (ranksOf f (g.take g.length))).map iE)])
  (fun k hk=>by
   have hc:=s_l2Copy_eq f g[k] hz.2.2.1
   have hln:=ranks_len f g k
   have hil:(insAll (ranksOf f (g.take k))).length≤1048576:=by rw[insAll_len];have:=hg.1;omega
   have hin:=insN_le
   simp only[Fl.e,jA,jB] at hc
   simp only[Fl.e,jA,jB,apL,jC,jD,s_l6Harm.d3,C.I_i,C.L_l,jW,ltL hk,decide_true,jR,jX,jY,getD_map' sE hk]
   simp only[sE,jC,hc,call1,jI,C.I_i]
   rcases rank_at (f:=f) hk with ⟨e1,e2⟩|⟨e1,m,hm,e2,e3⟩
   ·have:=(allFrom_iff _ _ _).1 ht k (Nat.zero_le _) (by omega)
    rw[e1] at this;cases this
   ·have hr:(f.cps[m].e).getD 2 C.nil=.i f.cps[m].rank:=rfl
    have hI:=ins_loop hz g hg f.cps[m].rank _ hil (.l (g.map sE)) (.i (k:Nat)) .nil
    have hN:=insN_le f.cps[m].rank (insAll (ranksOf f (g.take k)))
    simp only[Fl.e,jA,jB] at hI
    simp only[e2,decide_true,jR,jX,ltL hm,jY,getD_map' Cp.e hm,hr,ranks_succ f hk,insAll_snoc,e3]
    generalize insAll (ranksOf f (g.take k))=L at hI hil hN⊢
    generalize f.cps[m].rank=r at hI hN⊢
    rw[hI]
    have q1:((insN r L:Nat):Int)≤(L.length:Int):=by omega
    have q2:0+(insN r L)≤4294967296:=by omega
    have q3:min (insN r L) L.length=insN r L:=by omega
    have q4:0+insN r L+(0+1)≤4294967296:=by omega
    have q5:0+insN r L+(0+1)+(L.length-insN r L)≤4294967296:=by omega
    simp only[bindBlk_self,apL,jC,jD,s_l6Harm.d2,C.I_i,C.L_l,jW,q1,jX,decide_true,jR,jY,rows,List.length_append,List.length_drop,List.length_take,Nat.sub_zero,List.length_cons,List.length_nil,q2,q3,q4,q5,Int.le_refl,Nat.min_self,w1 hk hgl,List.drop_zero,jB]
    have p1:insN r L≤4294967295:=by omega
    have p2:insN r L+1+(L.length-insN r L)≤4294967296:=by omega
    simp[insD,iE,List.map_take,List.map_drop,List.take_of_length_le,p1,p2])
  (by simp[s_l6Harm.d3,Fl.e]) g.length 0 rfl
 simp only[Fl.e,jA,jB,Int.natCast_zero,List.take_zero,List.take_length,show insAll (ranksOf f [])=[] from rfl,List.map_nil] at h
 simp only[s_l6Harm,s_l6Harm.d5,Fl.e,jA,jB,apL,jC,jD,show nils=([]:List (List C)) from rfl,h,bindBlk_self,s_l6Harm.d4,C.L_l,jV]
end
end Go.Ev
namespace Go.Ev
section
variable {α:Type} (lt:α→α→Bool)
end
theorem uniq_mem {l:List Cp} (hu:UniqF l) {x y:Cp} (hx:x∈l) (hy:y∈l) (h:sEq x.name y.name=true):x=y:=by
 obtain ⟨i,hi,rfl⟩:=List.getElem_of_mem hx
 obtain ⟨k,hk,rfl⟩:=List.getElem_of_mem hy
 have:=hu i k hi hk h
 subst this;rfl
section
variable {f:Fl} (hz:f.Sz 1048576)
include hz
end
end Go.Ev
namespace Go.Ev
theorem cp_row (c:Cp):[c.e.getD 0 .nil,c.e.getD 1 .nil,c.e.getD 2 .nil,c.e.getD 3 .nil,c.e.getD 4 .nil,c.e.getD 5 .nil,c.e.getD 6 .nil,c.e.getD 7 .nil,c.e.getD 8 .nil,c.e.getD 9 .nil,c.e.getD 10 .nil,c.e.getD 11 .nil]=c.e:=rfl
theorem map_snoc {α:Type} (e:α→List C) (l:List α) (x:α):l.map e++[e x]=(l++[x]).map e:=by simp
section
variable {f:Fl} (hz:f.Sz 1048576)
include hz
end
end Go.Ev
namespace Go.Ev
def lexC {α:Type} (lt:α→α→Bool):List α→List α→Int
 |[],[]=>0
 |[],_::_=>-1
 |_::_,[]=>1
 |x::a,y::b=>bif lt x y then-1 else bif lt y x then 1 else lexC lt a b
theorem lexC_neg {α:Type} {lt:α→α→Bool} (asym:∀x y,lt x y=true→lt y x=false):∀a b:List α,lexC lt b a=-lexC lt a b
 |[],[]=>rfl
 |[],_::_=>rfl
 |_::_,[]=>rfl
 |x::a,y::b=>by
  have ih:=lexC_neg asym a b
  simp only[lexC]
  cases h1:lt x y with
  |true=>rw[asym _ _ h1];rfl
  |false=>cases h2:lt y x<;>simp[ih]
theorem lex_loop {α:Type} {lt:α→α→Bool} {xs ys:List α} {body:List C→R} {S:Nat→List C} {K:List C→R} {b:Nat} (out:Int→List C)
  (hs:∀i (h1:i<xs.length) (h2:i<ys.length),body (S i)=bif lt xs[i] ys[i] then some (.ret (out (-1))) else bif lt ys[i] xs[i] then some (.ret (out 1)) else some (.again (S (i+1))))
  (he:∀i,(i=xs.length∨i=ys.length)→i≤xs.length→i≤ys.length→bindBlk b (lim body (S i)) K=some (.ret (out (if xs.length<ys.length then-1 else if ys.length<xs.length then 1 else 0)))):
  ∀k i,k+i=min xs.length ys.length→bindBlk b (lim body (S i)) K=some (.ret (out (lexC lt (xs.drop i) (ys.drop i))))
 |0,i,h=>by
  rw[he i (by omega) (by omega) (by omega)]
  congr 3
  by_cases h1:xs.length<ys.length
  ·rw[if_pos h1,List.drop_of_length_le (show xs.length≤i by omega),List.drop_eq_getElem_cons (show i<ys.length by omega)];rfl
  ·rw[if_neg h1]
   by_cases h2:ys.length<xs.length
   ·rw[if_pos h2,List.drop_of_length_le (show ys.length≤i by omega),List.drop_eq_getElem_cons (show i<xs.length by omega)];rfl
   ·rw[if_neg h2,List.drop_of_length_le (show xs.length≤i by omega),List.drop_of_length_le (show ys.length≤i by omega)];rfl
 |k+1,i,h=>by
  have h1:i<xs.length:=by omega
  have h2:i<ys.length:=by omega
  have hb:=hs i h1 h2
  rw[List.drop_eq_getElem_cons h1,List.drop_eq_getElem_cons h2]
  simp only[lexC]
  cases q1:lt xs[i] ys[i] with
  |true=>rw[q1] at hb;rw[lim_ret hb];rfl
  |false=>
   rw[q1] at hb
   cases q2:lt ys[i] xs[i] with
   |true=>rw[q2] at hb;rw[lim_ret hb];rfl
   |false=>rw[q2] at hb;rw[lim_again hb,lex_loop out hs he k (i+1) (by omega)];rfl
def ltI (x y:Int):Bool:=decide (x<y)
theorem ltI_asym (x y:Int) (h:ltI x y=true):ltI y x=false:=by simp[ltI] at*;omega
theorem sLt_asym (x y:Str) (h:sLt x y=true):sLt y x=false:=by
 cases h':sLt y x with
 |false=>rfl
 |true=>have:=sLt_trans h h';rw[sLt_irr] at this;cases this
theorem cmpI_eq (x y:Int):cmp_Compare_int [.i x,.i y]=some [.i (bif ltI x y then-1 else bif ltI y x then 1 else 0)]:=by
 simp only[cmp_Compare_int,cmp_Compare_int.d1,cmp_isNaN_int,cmp_isNaN_int.d1,apL,jC,jD,C.I_i,bne_self_eq_false,jV,call1,jI,C.B_b,jS,ltI,gt_iff_lt]
 by_cases h1:x<y
 ·simp[h1]
 ·by_cases h2:y<x<;>simp[h1,h2]
theorem cmpS_eq (x y:Str) (hx:True):cmp_Compare_string [.s x,.s y]=some [.i (bif sLt x y then-1 else bif sLt y x then 1 else 0)]:=by
 have e:(!(Op.bytesLess x.toList y.toList||x.toList==y.toList))=sLt y x:=by
  have:=sLt_not x y
  show (!(sLt x y||sEq x y))=_
  rw[this,Bool.not_not]
 have hn:∀z:Str,cmp_isNaN_string [.s z]=some [.b false]:=fun z=>by
  simp[cmp_isNaN_string,cmp_isNaN_string.d1]
 simp only[cmp_Compare_string,cmp_Compare_string.d1,hn,apL,jC,jD,C.S_s,call1,jI,C.B_b,jS,e,jV]
 show finR (bif sLt x y then _ else _)=_
 cases sLt x y<;>cases sLt y x<;>rfl
theorem slices_Compare_int_eq (xs ys:List Int) (hx:xs.length≤1048576) (hy:ys.length≤1048576):slices_Compare_int [.l (xs.map iE),.l (ys.map iE)]=some [.i (lexC ltI xs ys)]:=by
 have hb:xs.length<big:=by simp only[big];omega
 have h:=lex_loop (lt:=ltI) (xs:=xs) (ys:=ys) (body:=ap5 slices_Compare_int.d1) (S:=fun i=>[.l (xs.map iE),.l (ys.map iE),.l (xs.map iE),.i (xs.length:Nat),.i (i:Nat)]) (K:=ap2 slices_Compare_int.d2) (b:=0) (fun n=>[.i n])
  (fun i h1 h2=>by
   have n1:¬((i:Int)≥(ys.length:Int)):=by omega
   simp only[apL,jC,jD,slices_Compare_int.d1,C.I_i,C.L_l,jW,ltL h1,ltL h2,n1,decide_true,decide_false,jR,jS,jX,jY,getD_map' iE h1,getD_map' iE h2,w1 h1 hb]
   simp only[iE,jC,cmpI_eq,call1,jI,C.I_i]
   cases ltI xs[i] ys[i]<;>cases ltI ys[i] xs[i]<;>rfl)
  (fun i h0 h1 h2=>by
   rcases Nat.lt_or_ge i xs.length with h|h
   ·have hi:i=ys.length:=by omega
    subst hi
    have hr:ap5 slices_Compare_int.d1 [.l (xs.map iE),.l (ys.map iE),.l (xs.map iE),.i (xs.length:Nat),.i (ys.length:Nat)]=some (.ret [.i 1]):=by
     have n1:((ys.length:Int)≥(ys.length:Int)):=by omega
     simp only[apL,jC,jD,slices_Compare_int.d1,C.I_i,C.L_l,jW,ltL h,n1,decide_true,jR,jX]
    rw[lim_ret hr,if_neg (by omega),if_pos h];rfl
   ·have hi:i=xs.length:=by omega
    subst hi
    have hr:ap5 slices_Compare_int.d1 [.l (xs.map iE),.l (ys.map iE),.l (xs.map iE),.i (xs.length:Nat),.i (xs.length:Nat)]=some (.brk 0 [.l (xs.map iE),.l (ys.map iE)]):=by
     simp[slices_Compare_int.d1]
    rw[lim_brk hr]
    simp only[bindBlk_self,apL,jC,jD,slices_Compare_int.d2,C.L_l,jW]
    by_cases h3:xs.length<ys.length
    ·rw[if_pos h3,ltL h3];rfl
    ·have:¬((xs.length:Int)<(ys.length:Int)):=by omega
     rw[if_neg h3,if_neg (by omega)];simp[this])
  (min xs.length ys.length) 0 (by omega)
 simp only[Int.natCast_zero,List.drop_zero] at h
 simp only[slices_Compare_int,slices_Compare_int.d3,apL,jC,jD,C.L_l,jW,h,jV]
theorem slices_Compare_string_eq (xs ys:List Str) (hx:xs.length≤1048576) (hy:ys.length≤1048576):slices_Compare_string [.l (xs.map sE),.l (ys.map sE)]=some [.i (lexC sLt xs ys)]:=by
 have hb:xs.length<big:=by simp only[big];omega
 have h:=lex_loop (lt:=sLt) (xs:=xs) (ys:=ys) (body:=ap5 slices_Compare_string.d1) (S:=fun i=>[.l (xs.map sE),.l (ys.map sE),.l (xs.map sE),.i (xs.length:Nat),.i (i:Nat)]) (K:=ap2 slices_Compare_string.d2) (b:=0) (fun n=>[.i n])
  (fun i h1 h2=>by
   have n1:¬((i:Int)≥(ys.length:Int)):=by omega
   simp only[apL,jC,jD,slices_Compare_string.d1,C.I_i,C.L_l,jW,ltL h1,ltL h2,n1,decide_true,decide_false,jR,jS,jX,jY,getD_map' sE h1,getD_map' sE h2,w1 h1 hb]
   simp only[sE,jC,cmpS_eq _ _ trivial,call1,jI,C.I_i]
   cases sLt xs[i] ys[i]<;>cases sLt ys[i] xs[i]<;>rfl)
  (fun i h0 h1 h2=>by
   rcases Nat.lt_or_ge i xs.length with h|h
   ·have hi:i=ys.length:=by omega
    subst hi
    have hr:ap5 slices_Compare_string.d1 [.l (xs.map sE),.l (ys.map sE),.l (xs.map sE),.i (xs.length:Nat),.i (ys.length:Nat)]=some (.ret [.i 1]):=by
     have n1:((ys.length:Int)≥(ys.length:Int)):=by omega
     simp only[apL,jC,jD,slices_Compare_string.d1,C.I_i,C.L_l,jW,ltL h,n1,decide_true,jR,jX]
    rw[lim_ret hr,if_neg (by omega),if_pos h];rfl
   ·have hi:i=xs.length:=by omega
    subst hi
    have hr:ap5 slices_Compare_string.d1 [.l (xs.map sE),.l (ys.map sE),.l (xs.map sE),.i (xs.length:Nat),.i (xs.length:Nat)]=some (.brk 0 [.l (xs.map sE),.l (ys.map sE)]):=by
     simp[slices_Compare_string.d1]
    rw[lim_brk hr]
    simp only[bindBlk_self,apL,jC,jD,slices_Compare_string.d2,C.L_l,jW]
    by_cases h3:xs.length<ys.length
    ·rw[if_pos h3,ltL h3];rfl
    ·have:¬((xs.length:Int)<(ys.length:Int)):=by omega
     rw[if_neg h3,if_neg (by omega)];simp[this])
  (min xs.length ys.length) 0 (by omega)
 simp only[Int.natCast_zero,List.drop_zero] at h
 simp only[slices_Compare_string,slices_Compare_string.d3,apL,jC,jD,C.L_l,jW,h,jV]
theorem lex_end (n m:Nat):decide ((if n<m then (-1:Int) else if m<n then 1 else 0)<0)=decide (n<m):=by
 by_cases h:n<m
 ·simp[h]
 ·by_cases h2:m<n<;>simp[h,h2]
theorem s_PilotLess_eq (xs ys:List Int) (hx:xs.length≤1048576) (hy:ys.length≤1048576):s_PilotLess [.l (xs.map iE),.l (ys.map iE)]=some [.b (decide (lexC ltI xs ys<0))]:=by
 have hb:xs.length<big:=by simp only[big];omega
 have h:=lex_loop (lt:=ltI) (xs:=xs) (ys:=ys) (body:=ap3 s_PilotLess.d1) (S:=fun i=>[.l (xs.map iE),.l (ys.map iE),.i (i:Nat)]) (K:=ap2 s_PilotLess.d2) (b:=0) (fun n=>[.b (decide (n<0))])
  (fun i h1 h2=>by
   simp only[apL,jC,jD,s_PilotLess.d1,C.I_i,C.L_l,jW,ltL h1,ltL h2,decide_true,decide_false,jR,jS,jX,jY,getD_map' iE h1,getD_map' iE h2,w1 h1 hb]
   simp only[iE,jC,C.I_i,ltI]
   rcases Int.lt_trichotomy xs[i] ys[i] with h|h|h
   ·have:(xs[i] !=ys[i])=true:=by rw[bne_iff_ne];omega
    simp[this,h]
   ·rw[h];simp
   ·have:(xs[i] !=ys[i])=true:=by rw[bne_iff_ne];omega
    have h':¬xs[i]<ys[i]:=by omega
    simp[this,h,h'])
  (fun i h0 h1 h2=>by
   have hr:ap3 s_PilotLess.d1 [.l (xs.map iE),.l (ys.map iE),.i (i:Nat)]=some (.brk 0 [.l (xs.map iE),.l (ys.map iE)]):=by
    simp only[apL,jC,jD,s_PilotLess.d1,C.I_i,C.L_l,jW]
    rcases Nat.lt_or_ge i xs.length with h|h
    ·have:¬((i:Int)<(ys.length:Int)):=by omega
     simp only[ltL h,this,decide_false,jR,jS]
    ·have:¬((i:Int)<(xs.length:Int)):=by omega
     simp only[this,decide_false,jS]
   rw[lim_brk hr,lex_end]
   simp only[bindBlk_self,apL,jC,jD,s_PilotLess.d2,C.L_l,jW]
   congr 5
   simp)
  (min xs.length ys.length) 0 (by omega)
 simp only[Int.natCast_zero,List.drop_zero] at h
 simp only[s_PilotLess,s_PilotLess.d3,apL,jC,jD,h,jV]
theorem s_l6Names_eq (xs ys:List Str) (hx:xs.length≤1048576) (hy:ys.length≤1048576):s_l6Names [.l (xs.map sE),.l (ys.map sE)]=some [.b (decide (lexC sLt xs ys<0))]:=by
 have hb:xs.length<big:=by simp only[big];omega
 have h:=lex_loop (lt:=sLt) (xs:=xs) (ys:=ys) (body:=ap3 s_l6Names.d1) (S:=fun i=>[.l (xs.map sE),.l (ys.map sE),.i (i:Nat)]) (K:=ap2 s_l6Names.d2) (b:=0) (fun n=>[.b (decide (n<0))])
  (fun i h1 h2=>by
   simp only[apL,jC,jD,s_l6Names.d1,C.I_i,C.L_l,jW,ltL h1,ltL h2,decide_true,decide_false,jR,jS,jX,jY,getD_map' sE h1,getD_map' sE h2,w1 h1 hb]
   simp only[sE,jC,C.S_s]
   have e:=sLt_not xs[i] ys[i]
   show (bif !(sEq xs[i] ys[i]) then some (Out.ret [C.b (sLt xs[i] ys[i])]) else _)=_
   cases h1:sLt xs[i] ys[i]<;>cases h2:sLt ys[i] xs[i]<;>cases h3:sEq xs[i] ys[i]<;>simp_all
   all_goals (rw[sEq_iff] at h3;rw[h3,sLt_irr] at h1;cases h1))
  (fun i h0 h1 h2=>by
   have hr:ap3 s_l6Names.d1 [.l (xs.map sE),.l (ys.map sE),.i (i:Nat)]=some (.brk 0 [.l (xs.map sE),.l (ys.map sE)]):=by
    simp only[apL,jC,jD,s_l6Names.d1,C.I_i,C.L_l,jW]
    rcases Nat.lt_or_ge i xs.length with h|h
    ·have:¬((i:Int)<(ys.length:Int)):=by omega
     simp only[ltL h,this,decide_false,jR,jS]
    ·have:¬((i:Int)<(xs.length:Int)):=by omega
     simp only[this,decide_false,jS]
   rw[lim_brk hr,lex_end]
   simp only[bindBlk_self,apL,jC,jD,s_l6Names.d2,C.L_l,jW]
   congr 5
   simp)
  (min xs.length ys.length) 0 (by omega)
 simp only[Int.natCast_zero,List.drop_zero] at h
 simp only[s_l6Names,s_l6Names.d3,apL,jC,jD,h,jV]
end Go.Ev
namespace Go.Ev
def candP (c:Cp) (b:Bt) (d:Cp):Bool:=sEq d.at_ b.name&&decide (d.rank<c.rank)
def cands (f:Fl) (c:Cp) (b:Bt):List Cp:=f.cps.filter (candP c b)
def bitAt (set i:Nat):Bool:=set/2^i%2==1
def subN (l:List Cp) (set:Nat):Nat→List Cp
 |0=>[]
 |i+1=>match l[i]? with
  |some d=>bif bitAt set i then subN l set i++[d] else subN l set i
  |none=>subN l set i
theorem subN_succ {l:List Cp} {i:Nat} (set:Nat) (h:i<l.length):subN l set (i+1)=bif bitAt set i then subN l set i++[l[i]] else subN l set i:=by
 simp[subN,h]
theorem subN_mem {l:List Cp} {set:Nat} {x:Cp}:∀ {i:Nat},x∈subN l set i→x∈l
 |0,h=>by simp[subN] at h
 |i+1,h=>by
  simp only[subN] at h
  cases hl:l[i]? with
  |none=>rw[hl] at h;exact subN_mem h
  |some d=>
   rw[hl] at h
   simp only at h
   cases hb:bitAt set i with
   |false=>rw[hb] at h;exact subN_mem h
   |true=>
    rw[hb,jR] at h
    rcases List.mem_append.1 h with h|h
    ·exact subN_mem h
    ·rw[List.mem_singleton] at h
     rw[h];exact List.mem_of_getElem? hl
theorem subN_len (l:List Cp) (set:Nat):∀i,(subN l set i).length≤i
 |0=>Nat.le_refl _
 |i+1=>by
  have ih:=subN_len l set i
  simp only[subN]
  split
  ·cases bitAt set i<;>simp<;>omega
  ·omega
def subL (f:Fl) (c:Cp) (b:Bt) (set:Nat):List Str:=(subN (cands f c b) set (cands f c b).length).map Cp.name
structure Known (f:Fl) (l:List Str):Prop where
 len:l.length≤f.cps.length
 mem:∀s,s∈l→∃d,d∈f.cps∧d.name=s
theorem known_sub (f:Fl) (c:Cp) (b:Bt) (set:Nat):Known f (subL f c b set):=by
 refine ⟨?_,fun s hs=>?_⟩
 ·rw[subL,jW]
  exact Nat.le_trans (subN_len _ _ _) (List.length_filter_le _ _)
 ·rw[subL,List.mem_map] at hs
  obtain ⟨d,hd,rfl⟩:=hs
  exact ⟨d,(List.mem_filter.1 (subN_mem hd)).1,rfl⟩
theorem known_nil (f:Fl):Known f []:=⟨Nat.zero_le _,fun s hs=>by simp at hs⟩
theorem cIx_name {f:Fl} (hu:UniqF f.cps) {d:Cp} (hd:d∈f.cps):∃k,∃hk:k<f.cps.length,cIx f d.name=(k:Nat)∧f.cps[k]=d:=by
 rcases cIx_at f d.name with h|⟨k,hk,h,e⟩
 ·have:=findIx_neg _ _ _ h
  have h2:f.cps.any (fun x:Cp=>sEq x.name d.name)=true:=List.any_eq_true.2 ⟨d,hd,(sEq_iff _ _).2 rfl⟩
  rw[this] at h2;cases h2
 ·exact ⟨k,hk,h,uniq_mem hu (List.getElem_mem hk) hd e⟩
theorem rank_name {f:Fl} (hu:UniqF f.cps) {d:Cp} (hd:d∈f.cps):rankOf f d.name=d.rank:=by
 obtain ⟨k,hk,h,rfl⟩:=cIx_name hu hd
 simp[rankOf,h,hk]
theorem ranks_sub {f:Fl} (hu:UniqF f.cps) {l:List Cp} (h:∀d,d∈l→d∈f.cps):ranksOf f (l.map Cp.name)=l.map Cp.rank:=by
 rw[ranksOf,List.map_map]
 exact List.map_congr_left fun d hd=>rank_name hu (h d hd)
theorem Known.sz {f:Fl} {l:List Str} (h:Known f l) (hz:f.Sz 1048576):SsSz 1048576 l:=by
 refine ⟨Nat.le_trans h.len hz.2.2.1,fun s hs=>?_⟩
 obtain ⟨d,hd,rfl⟩:=h.mem s hs
 exact (hz.2.2.2 d hd).1
theorem Known.ix {f:Fl} {l:List Str} (h:Known f l) (hu:UniqF f.cps):∀j (hj:j<l.length),∃k,∃hk:k<f.cps.length,cIx f l[j]=(k:Nat)∧sEq f.cps[k].name l[j]=true:=by
 intro j hj
 obtain ⟨d,hd,e⟩:=h.mem l[j] (List.getElem_mem hj)
 obtain ⟨k,hk,h1,h2⟩:=cIx_name hu hd
 exact ⟨k,hk,by rw[←e];exact h1,by rw[h2,e];exact (sEq_iff _ _).2 rfl⟩
theorem Known.there {f:Fl} {l:List Str} (h:Known f l) (hu:UniqF f.cps):allFrom (thereA f l) 0 l.length=true:=by
 rw[allFrom_iff]
 intro j _ hj
 have hj:j<l.length:=by omega
 obtain ⟨k,hk,h1,_⟩:=h.ix hu j hj
 rw[thereA,sAt_get hj,h1]
 simp
def harmS (f:Fl) (l:List Str):List Int:=insAll (ranksOf f l)
theorem harmS_len {f:Fl} {l:List Str} (h:Known f l):(harmS f l).length≤f.cps.length:=by
 rw[harmS,insAll_len,ranksOf,jW];exact h.len
def worse (f:Fl) (l best:List Str):Bool:=decide (0<lexC ltI (harmS f l) (harmS f best))||(lexC ltI (harmS f l) (harmS f best)==0&&decide (0≤lexC sLt l best))
def mayB (f:Fl) (c:Cp) (b:Bt) (l:List Str):Bool:=mayGo f l&&(fitsN (goF f l) c b false==0)
def stepV (f:Fl) (c:Cp) (b:Bt) (st:Option (List Str)) (l:List Str):Option (List Str):=
 bif (match st with|some best=>worse f l best|none=>false) then st else bif mayB f c b l then some l else st
def vic (f:Fl) (c:Cp) (b:Bt):Nat→Option (List Str)
 |0=>none
 |k+1=>stepV f c b (vic f c b k) (subL f c b k)
theorem vic_known (f:Fl) (c:Cp) (b:Bt):∀k,Known f ((vic f c b k).getD [])
 |0=>known_nil f
 |k+1=>by
  have ih:=vic_known f c b k
  simp only[vic,stepV]
  generalize (match vic f c b k with|some best=>worse f (subL f c b k) best|none=>false)=q
  cases q with
  |true=>exact ih
  |false=>
   cases mayB f c b (subL f c b k) with
   |false=>exact ih
   |true=>exact known_sub f c b k
theorem bit_div (set i:Nat):(((set:Int).fdiv (2^i)).tmod 2==1)=bitAt set i:=by
 have e:(set:Int).fdiv (2^i)=((set/2^i:Nat):Int):=by
  rw[Int.fdiv_eq_ediv_of_nonneg _ (Int.pow_nonneg (by decide))]
  simp
 rw[e,bitAt,Int.tmod_eq_emod_of_nonneg (jX _)]
 generalize set/2^i=n
 rw[Bool.eq_iff_iff,beq_iff_eq,beq_iff_eq]
 omega
theorem bit_and (set i:Nat) (hs:set<9223372036854775808):(w64 ((BitVec.ofInt (IntKind.bits .i64) ((set:Int).fdiv (2^i))&&& BitVec.ofInt (IntKind.bits .i64) 1).toNat:Int)==1)=bitAt set i:=by
 have e:(set:Int).fdiv (2^i)=((set/2^i:Nat):Int):=by
  rw[Int.fdiv_eq_ediv_of_nonneg _ (Int.pow_nonneg (by decide))]
  simp
 rw[e,bitAt]
 have hn:set/2^i<9223372036854775808:=Nat.lt_of_le_of_lt (Nat.div_le_self _ _) hs
 generalize set/2^i=n at hn
 have e2:(BitVec.ofInt (IntKind.bits .i64) (n:Int)&&& BitVec.ofInt (IntKind.bits .i64) 1).toNat=n%2:=by
  rw[BitVec.toNat_and]
  have h1:(BitVec.ofInt (IntKind.bits .i64) (n:Int)).toNat=n:=by
   show (BitVec.ofInt 64 (n:Int)).toNat=n
   rw[BitVec.toNat_ofInt]
   omega
  have h2:(BitVec.ofInt (IntKind.bits .i64) 1).toNat=1:=by decide
  rw[h1,h2,Nat.and_one_is_mod]
 rw[e2,w64_of (by omega) (by omega),Bool.eq_iff_iff,beq_iff_eq,beq_iff_eq]
 omega
theorem cands_len {f:Fl} (hv:VB f) (c:Cp) (b:Bt):(cands f c b).length≤60:=Nat.le_trans (List.length_filter_le _ _) hv.n60
theorem shl_one {n:Nat} (h:n≤60):w64 (1*2^(min n 64))=((2^n:Nat):Int)∧2^n<9223372036854775808:=by
 have e:min n 64=n:=by omega
 have h2:2^n≤2^60:=Nat.pow_le_pow_right (by decide) h
 have h3:(2:Nat)^60=1152921504606846976:=by decide
 rw[h3] at h2
 have e2:(1*2^n:Int)=((2^n:Nat):Int):=by simp
 rw[e,e2]
 generalize 2^n=N at h2
 rw[w64_of (by omega) (by omega)]
 exact ⟨rfl,by omega⟩
theorem cands_succ (f:Fl) (c:Cp) (b:Bt) {i:Nat} (h:i<f.cps.length):(f.cps.take (i+1)).filter (candP c b)=bif candP c b f.cps[i] then (f.cps.take i).filter (candP c b)++[f.cps[i]] else (f.cps.take i).filter (candP c b):=by
 rw[List.take_succ_eq_append_getElem h,List.filter_append]
 cases hw:candP c b f.cps[i]<;>simp[hw]
theorem filter_len (p:Cp→Bool) (f:Fl) (i:Nat):((f.cps.take i).filter p).length≤f.cps.length:=
 Nat.le_trans (List.length_filter_le _ _) (by rw[List.length_take];omega)
end Go.Ev
namespace Go.Ev
theorem worse_spec {f:Fl} (l best:List Str):(decide (lexC ltI (harmS f best) (harmS f l)<0)||(!decide (lexC ltI (harmS f l) (harmS f best)<0)&&!decide (lexC sLt l best<0)))=worse f l best:=by
 rw[lexC_neg ltI_asym (harmS f l) (harmS f best)]
 unfold worse
 generalize lexC ltI (harmS f l) (harmS f best)=k
 generalize lexC sLt l best=m
 rcases Int.lt_trichotomy k 0 with h|h|h
 ·have h1:¬-k<0:=by omega
  have h2:¬0<k:=by omega
  have h3:(k==0)=false:=by rw[beq_eq_false_iff_ne];omega
  simp[h,h1,h2,h3]
 ·subst h
  simp
  rw[←decide_not,decide_eq_decide];omega
 ·have h1:-k<0:=by omega
  simp[h,h1]
section
variable {f:Fl} (hz:f.Sz 1048576) {c:Cp} (hc:c.Sz 1048576) {b:Bt} (hb:b.Sz 1048576) (hbo:berthOk b=true) (hv:validF f=true) (hr:0≤c.room∧c.room≤1000) (hh:0≤c.hold∧c.hold≤1000)
include hz hc hb hbo hv hr hh
theorem s_cand_loop:lim (ap24 s_l6Victims.d1) ([.i 0]++f.e++c.e++b.e++[.l nils])=some (.brk 0 (f.e++c.e++b.e++[.l (((cands f c b).map Cp.name).map sE)])):=by
 have hlc:f.cps.length<big:=by have:=hz.2.2.1;simp only[big];omega
 have h:=run_loop (body:=ap24 s_l6Victims.d1) (S:=fun i=>[C.i (i:Nat)]++f.e++c.e++b.e++[C.l ((((f.cps.take i).filter (candP c b)).map Cp.name).map sE)]) (n:=f.cps.length) (b:=0) (ys:=f.e++c.e++b.e++[.l ((((f.cps.take f.cps.length).filter (candP c b)).map Cp.name).map sE)])
  (fun i hi=>by
   have hn:((f.cps.take i).filter (candP c b)).length+1≤4294967296:=by have:=filter_len (candP c b) f i;have:=hz.2.2.1;omega
   have q0:(((f.cps[i].e.getD 11 C.nil).S).toList==b.name.toList)=sEq f.cps[i].at_ b.name:=rfl
   have q1:((f.cps[i].e.getD 2 C.nil).I)=f.cps[i].rank:=rfl
   have hs:[f.cps[i].e.getD 0 C.nil]=sE f.cps[i].name:=rfl
   simp only[Fl.e,Cp.e,Bt.e,jA,jB,apL,jC,jD,s_l6Victims.d1,C.I_i,C.L_l,C.S_s,jW,ltL hi,decide_true,jR,jX,jY,getD_map' Cp.e hi]
   simp only[Cp.e,jC,jD,C.S_s,C.I_i] at q0 q1 hs⊢
   rw[cands_succ f c b hi]
   simp only[candP,q0]
   cases sEq f.cps[i].at_ b.name with
   |false=>simp[w1 hi hlc]
   |true=>
    cases hd:decide (f.cps[i].rank<c.rank) with
    |false=>simp[w1 hi hlc]
    |true=>
     simp only[jR,Bool.and_self,hs,rows,List.length_cons,List.length_nil,Nat.zero_add,hn,decide_true,w1 hi hlc,List.map_append,List.map_cons,List.map_nil])
  (by simp[s_l6Victims.d1,Fl.e,Cp.e,Bt.e]) f.cps.length 0 rfl
 simp only[Int.natCast_zero,List.take_zero,List.filter_nil,List.map_nil,List.take_length] at h
 exact h
theorem s_bit_loop (fo:Bool) (set:Nat) (hs:set<9223372036854775808) (cs:List Cp) (hcs:cs.length≤60) (best:List (List C)):lim (ap28 s_l6Victims.d2) ([.b fo,.i set,.i 0]++f.e++c.e++b.e++[.l ((cs.map Cp.name).map sE),.l best,.l nils])=
  some (.brk 4 ([.b fo,.i set]++f.e++c.e++b.e++[.l ((cs.map Cp.name).map sE),.l best,.l (((subN cs set cs.length).map Cp.name).map sE)])):=by
 have hlc:cs.length<big:=by simp only[big];omega
 have h:=run_loop (body:=ap28 s_l6Victims.d2) (S:=fun i=>[C.b fo,C.i set,C.i (i:Nat)]++f.e++c.e++b.e++[.l ((cs.map Cp.name).map sE),.l best,C.l (((subN cs set i).map Cp.name).map sE)]) (n:=cs.length) (b:=4) (ys:=[C.b fo,C.i set]++f.e++c.e++b.e++[.l ((cs.map Cp.name).map sE),.l best,C.l (((subN cs set cs.length).map Cp.name).map sE)])
  (fun i hi=>by
   have hi':i<(cs.map Cp.name).length:=by simpa using hi
   have hn:(subN cs set i).length+1≤4294967296:=by have:=subN_len cs set i;omega
   have hmin:min i 64=i:=by omega
   have hgn:((cs.map Cp.name).map sE).getD i []=sE cs[i].name:=by
    rw[getD_map' sE hi'];simp
   have hs1:[(sE cs[i].name).getD 0 C.nil]=sE cs[i].name:=rfl
   simp only[Fl.e,Cp.e,Bt.e,jA,jB,apL,jC,jD,s_l6Victims.d2,C.I_i,C.L_l,C.S_s,jW,ltL hi,decide_true,jR,jX,jY,hmin,bit_div,hgn,hs1,rows,List.length_cons,List.length_nil,Nat.zero_add,hn,w1 hi hlc,subN_succ set hi]
   cases bitAt set i<;>simp)
  (by simp[s_l6Victims.d2,Fl.e,Cp.e,Bt.e]) cs.length 0 rfl
 exact h
theorem s_try {st:Option (List Str)} (hst:Known f (st.getD [])) {l:List Str} (hl:Known f l) (set:Int) (nm:List (List C)):
  ap27 s_l6Victims.d3 ([.b st.isSome,.i set]++f.e++c.e++b.e++[.l nm,.l ((st.getD []).map sE),.l (l.map sE)])=
  some (.brk 3 ([.b (bif mayB f c b l then some l else st).isSome,.i set]++f.e++c.e++b.e++[.l nm,.l (((bif mayB f c b l then some l else st).getD []).map sE)])):=by
 have hu:=uniq_of hv
 have hm:=s_l6MayGo_eq hz (hl.sz hz) hv
 have hw:=s_l6Without_eq hz l (hl.sz hz).1 hu (hl.ix hu)
 have F1:=s_l3Fits_eq (goF_sz hz l) hc hb hbo (goF_vb (vb_of hv) l) hr hh false
 have fe:(((fitsN (goF f l) c b false:Nat):Int)==0)=(fitsN (goF f l) c b false==0):=by rw[Bool.eq_iff_iff,beq_iff_eq,beq_iff_eq];omega
 simp only[Fl.e,Cp.e,Bt.e,jA,jB] at hm hw F1
 simp only[Fl.e,Cp.e,Bt.e,jA,jB,apL,jC,jD,s_l6Victims.d3,C.L_l,hm,call1,jI,C.B_b,mayB]
 cases mayGo f l with
 |false=>simp
 |true=>
  simp only[jR,hw,call4,jI,jC,jD,C.L_l,F1,C.I_i,fe,Bool.true_and]
  cases fitsN (goF f l) c b false==0<;>simp
theorem s_step {st:Option (List Str)} (hst:Known f (st.getD [])) {l:List Str} (hl:Known f l) (set:Int) (nm:List (List C)):
  ap27 s_l6Victims.d4 ([.b st.isSome,.i set]++f.e++c.e++b.e++[.l nm,.l ((st.getD []).map sE),.l (l.map sE)])=
  some (.brk 3 ([.b (stepV f c b st l).isSome,.i set]++f.e++c.e++b.e++[.l nm,.l (((stepV f c b st l).getD []).map sE)])):=by
 have ht:=s_try hz hc hb hbo hv hr hh hst hl set nm
 have hu:=uniq_of hv
 cases st with
 |none=>
  simp only[Option.isSome_none,Fl.e,Cp.e,Bt.e,jA,jB,apL,jC,jD] at ht
  simp only[Option.isSome_none,Fl.e,Cp.e,Bt.e,jA,jB,apL,jC,jD,s_l6Victims.d4,C.B_b,C.L_l,jS,jJ,ht,stepV]
 |some best=>
  have hst:Known f best:=hst
  have h1:=s_l6Harm_eq hz l (hl.sz hz) (hl.there hu)
  have h2:=s_l6Harm_eq hz best (hst.sz hz) (hst.there hu)
  have hn60:=(vb_of hv).n60
  have b1:=harmS_len hl
  have b2:=harmS_len hst
  have b3:=hl.len
  have b4:=hst.len
  have l1:=s_PilotLess_eq (harmS f best) (harmS f l) (by omega) (by omega)
  have l2:=s_PilotLess_eq (harmS f l) (harmS f best) (by omega) (by omega)
  have l3:=s_l6Names_eq l best (by omega) (by omega)
  have hw:=worse_spec (f:=f) l best
  simp only[Fl.e,jA,jB] at h1 h2
  rw[show insAll (ranksOf f l)=harmS f l from rfl] at h1
  rw[show insAll (ranksOf f best)=harmS f best from rfl] at h2
  simp only[Option.isSome_some,Option.getD_some,Fl.e,Cp.e,Bt.e,jA,jB,apL,jC,jD] at ht
  simp only[Option.isSome_some,Option.getD_some,Fl.e,Cp.e,Bt.e,jA,jB,apL,jC,jD,s_l6Victims.d4,C.B_b,C.L_l,jR,h1,h2,l1,l2,l3,call1,jI,stepV,←hw]
  cases decide (lexC ltI (harmS f best) (harmS f l)<0) with
  |true=>simp
  |false=>
   simp only[ja,jR,Bool.false_or]
   cases decide (lexC ltI (harmS f l) (harmS f best)<0) with
   |true=>simp only[jZ,jS,Bool.false_and,jJ,apL,jC,jD,ht]
   |false=>
    simp only[ja,jR,Bool.true_and]
    cases decide (lexC sLt l best<0) with
    |true=>simp only[jZ,jS,jJ,apL,jC,jD,ht]
    |false=>simp
def vicAll (f:Fl) (c:Cp) (b:Bt):Option (List Str):=vic f c b (2^(cands f c b).length)
theorem s_l6Victims_eq:s_l6Victims (f.e++c.e++b.e)=some [.b (vicAll f c b).isSome,.l (((vicAll f c b).getD []).map sE)]:=by
 have hcl:=cands_len (vb_of hv) c b
 obtain ⟨p1,p2⟩:=shl_one hcl
 have h0:=s_cand_loop hz hc hb hbo hv hr hh
 have h:=run_loop (body:=ap26 s_l6Victims.d6) (S:=fun k=>[C.b (vic f c b k).isSome,C.i (k:Nat)]++f.e++c.e++b.e++[C.l (((cands f c b).map Cp.name).map sE),C.l (((vic f c b k).getD []).map sE)]) (n:=2^(cands f c b).length) (b:=2) (ys:=[C.b (vicAll f c b).isSome,C.l (((vicAll f c b).getD []).map sE)])
  (fun k hk=>by
   have hb1:=s_bit_loop hz hc hb hbo hv hr hh (vic f c b k).isSome k (by omega) (cands f c b) hcl (((vic f c b k).getD []).map sE)
   have hs1:=s_step hz hc hb hbo hv hr hh (vic_known f c b k) (known_sub f c b k) (k:Nat) (((cands f c b).map Cp.name).map sE)
   have hlt:((k:Int)<((2^(cands f c b).length:Nat):Int)):=by omega
   have hw:w64 ((k:Int)+1)=((k+1:Nat):Int):=by rw[w64_of (by omega) (by omega)];omega
   rw[show ((subN (cands f c b) k (cands f c b).length).map Cp.name)=subL f c b k from rfl] at hb1
   simp only[Fl.e,Cp.e,Bt.e,jA,jB] at hb1 hs1
   simp only[Fl.e,Cp.e,Bt.e,jA,jB,apL,jC,jD,s_l6Victims.d6,C.I_i,C.L_l,jW,jX,decide_true,jR,jY,p1,hlt,show nils=([]:List (List C)) from rfl] at hb1⊢
   rw[hb1]
   simp only[bindBlk_self,hs1,apL,jC,jD,s_l6Victims.d5,C.I_i,C.L_l,hw]
   rfl)
  (by
   have hlt:¬(((2^(cands f c b).length:Nat):Int)<((2^(cands f c b).length:Nat):Int)):=by omega
   simp only[Fl.e,Cp.e,Bt.e,jA,jB,apL,jC,jD,s_l6Victims.d6,C.I_i,C.L_l,jW,jX,decide_true,jR,jY,p1,hlt,decide_false,jS]
   rfl) (2^(cands f c b).length) 0 (by omega)
 simp only[vic,Option.isSome_none,Option.getD_none,List.map_nil,Int.natCast_zero,Fl.e,Cp.e,Bt.e,jA,jB] at h h0
 simp only[show nils=([]:List (List C)) from rfl] at h0
 simp only[s_l6Victims,s_l6Victims.d9,Fl.e,Cp.e,Bt.e,jA,jB,apL,jC,jD,show nils=([]:List (List C)) from rfl,h0,bindBlk_self,s_l6Victims.d8,C.L_l,h,s_l6Victims.d7,C.B_b,jV]
end
end Go.Ev
namespace Go.Ev
def stH (f:Fl) (st:Option (List Str)):List Int:=match st with|some best=>harmS f best|none=>[]
theorem sub_ranks {f:Fl} (hu:UniqF f.cps) (c:Cp) (b:Bt) (set:Nat):(sortI ((subN (cands f c b) set (cands f c b).length).map Cp.rank)).reverse=harmS f (subL f c b set):=by
 rw[harm_eq,harmS,subL,ranks_sub hu (l:=subN (cands f c b) set (cands f c b).length) fun d hd=>(List.mem_filter.1 (show d∈f.cps.filter (candP c b) from subN_mem hd)).1]
section
variable {f:Fl} (hz:f.Sz 1048576) {c:Cp} (hc:c.Sz 1048576) {b:Bt} (hb:b.Sz 1048576) (hbo:berthOk b=true) (hv:validF f=true) (hr:0≤c.room∧c.room≤1000) (hh:0≤c.hold∧c.hold≤1000) (ha:0≤c.apart∧c.apart≤2)
include hz hc hb hbo hv hr hh ha
theorem i_cand_loop:lim (ap26 i_pVictims.d2) ([.l (f.cps.map Cp.e),.i (f.cps.length:Nat),.i 0]++f.e++c.e++b.e++[.l nils])=some (.brk 0 (f.e++c.e++b.e++[.l ((cands f c b).map Cp.e)])):=by
 have hlc:f.cps.length<big:=by have:=hz.2.2.1;simp only[big];omega
 have h:=run_loop (body:=ap26 i_pVictims.d2) (S:=fun i=>[C.l (f.cps.map Cp.e),C.i (f.cps.length:Nat),C.i (i:Nat)]++f.e++c.e++b.e++[C.l (((f.cps.take i).filter (candP c b)).map Cp.e)]) (n:=f.cps.length) (b:=0) (ys:=f.e++c.e++b.e++[.l (((f.cps.take f.cps.length).filter (candP c b)).map Cp.e)])
  (fun i hi=>by
   have hn:((f.cps.take i).filter (candP c b)).length+1≤4294967296:=by have:=filter_len (candP c b) f i;have:=hz.2.2.1;omega
   have q0:(((f.cps[i].e.getD 11 C.nil).S).toList==b.name.toList)=sEq f.cps[i].at_ b.name:=rfl
   have q1:((f.cps[i].e.getD 2 C.nil).I)=f.cps[i].rank:=rfl
   have hf:f.e=[.b f.pack,.l (f.bts.map Bt.e),.l (f.svs.map Sv.e),.l (f.cps.map Cp.e)]:=rfl
   have hce:c.e=[.s c.name,.s c.svc,.i c.rank,.i c.born,.i c.room,.i c.hold,.s c.sel,.l (c.likes.map Lk.e),.i c.apart,.s c.near,.s c.fixed,.s c.at_]:=rfl
   have hbe:b.e=[.s b.name,.s b.zone,.l (b.marks.map sE),.i b.room,.i b.hold,.b b.shut]:=rfl
   simp only[hf,hce,hbe,jA,jB,apL,jC,jD,i_pVictims.d2,C.I_i,C.L_l,C.S_s,jW,ltL hi,decide_true,jR,jX,jY,getD_map' Cp.e hi,cp_row,q0,q1]
   rw[cands_succ f c b hi]
   simp only[candP]
   cases sEq f.cps[i].at_ b.name with
   |false=>simp[i_pVictims.d1,w1 hi hlc]
   |true=>
    cases hd:decide (f.cps[i].rank<c.rank) with
    |false=>simp[i_pVictims.d1,w1 hi hlc]
    |true=>
     simp only[jR,Bool.and_self,rows,List.length_cons,List.length_nil,Nat.zero_add,hn,decide_true,jJ,apL,jC,jD,i_pVictims.d1,C.I_i,C.L_l,w1 hi hlc,List.map_append,List.map_cons,List.map_nil])
  (by simp[i_pVictims.d2,Fl.e,Cp.e,Bt.e]) f.cps.length 0 rfl
 simp only[Int.natCast_zero,List.take_zero,List.filter_nil,List.map_nil,List.take_length] at h
 exact h
theorem i_bit_loop (fo:C) (N set:Nat) (hs:set<9223372036854775808) (cs:List Cp) (hcs:cs.length≤60) (best harm:List (List C)):lim (ap33 i_pVictims.d3) ([fo,.i set,.i N,.i set,.i (cs.length:Nat),.i 0]++f.e++c.e++b.e++[.l (cs.map Cp.e),.l best,.l harm,.l nils,.l nils])=
  some (.brk 4 ([fo,.i N,.i set]++f.e++c.e++b.e++[.l (cs.map Cp.e),.l best,.l harm,.l (((subN cs set cs.length).map Cp.name).map sE),.l (((subN cs set cs.length).map Cp.rank).map iE)])):=by
 have hlc:cs.length<big:=by simp only[big];omega
 have h:=run_loop (body:=ap33 i_pVictims.d3) (S:=fun i=>[fo,C.i set,C.i N,C.i set,C.i (cs.length:Nat),C.i (i:Nat)]++f.e++c.e++b.e++[.l (cs.map Cp.e),.l best,.l harm,C.l (((subN cs set i).map Cp.name).map sE),C.l (((subN cs set i).map Cp.rank).map iE)]) (n:=cs.length) (b:=4) (ys:=[fo,C.i N,C.i set]++f.e++c.e++b.e++[.l (cs.map Cp.e),.l best,.l harm,C.l (((subN cs set cs.length).map Cp.name).map sE),C.l (((subN cs set cs.length).map Cp.rank).map iE)])
  (fun i hi=>by
   have hn:(subN cs set i).length+1≤4294967296:=by have:=subN_len cs set i;omega
   have hmin:min i 64=i:=by omega
   have hs1:[cs[i].e.getD 0 C.nil]=sE cs[i].name:=rfl
   have hs2:[cs[i].e.getD 2 C.nil]=iE cs[i].rank:=rfl
   have hf:f.e=[.b f.pack,.l (f.bts.map Bt.e),.l (f.svs.map Sv.e),.l (f.cps.map Cp.e)]:=rfl
   have hce:c.e=[.s c.name,.s c.svc,.i c.rank,.i c.born,.i c.room,.i c.hold,.s c.sel,.l (c.likes.map Lk.e),.i c.apart,.s c.near,.s c.fixed,.s c.at_]:=rfl
   have hbe:b.e=[.s b.name,.s b.zone,.l (b.marks.map sE),.i b.room,.i b.hold,.b b.shut]:=rfl
   simp only[hf,hce,hbe,jA,jB,apL,jC,jD,i_pVictims.d3,C.I_i,C.L_l,C.S_s,jW,ltL hi,decide_true,jR,jX,jY,hmin,bit_and set i hs,getD_map' Cp.e hi,hs1,hs2,rows,List.length_cons,List.length_nil,Nat.zero_add,hn,w1 hi hlc,subN_succ set hi]
   cases bitAt set i<;>simp)
  (by simp[i_pVictims.d3,Fl.e,Cp.e,Bt.e]) cs.length 0 rfl
 exact h
theorem i_try {st:Option (List Str)} (hst:Known f (st.getD [])) {l:List Str} (hl:Known f l) (N set:C) (cs:List (List C)):
  ap30 i_pVictims.d4 ([.b st.isSome,N,set]++f.e++c.e++b.e++[.l cs,.l ((st.getD []).map sE),.l ((stH f st).map iE),.l (l.map sE),.l ((harmS f l).map iE)])=
  some (.brk 3 ([.b (bif mayB f c b l then some l else st).isSome,N,set]++f.e++c.e++b.e++[.l cs,.l (((bif mayB f c b l then some l else st).getD []).map sE),.l ((stH f (bif mayB f c b l then some l else st)).map iE)])):=by
 have hm:=i_pMayGo_eq hz (hl.sz hz) hv
 have hw:=i_pGo_eq hz l (hl.sz hz).1
 have F1:=i_pFits_eq (goF_sz hz l) hc hb hbo (goF_vb (vb_of hv) l) hr hh ha true
 have fe:(((fitsN (goF f l) c b false:Nat):Int) !=0)=!(fitsN (goF f l) c b false==0):=by rw[Bool.eq_iff_iff,bne_iff_ne,Bool.not_eq_true',beq_eq_false_iff_ne];omega
 simp only[Fl.e,Cp.e,Bt.e,jA,jB,jZ] at hm hw F1
 simp only[Fl.e,Cp.e,Bt.e,jA,jB,apL,jC,jD,i_pVictims.d4,C.L_l,hm,call1,jI,C.B_b,mayB]
 cases mayGo f l with
 |false=>simp
 |true=>
  simp only[jR,jZ,ja,hw,call4,jI,jC,jD,C.L_l,F1,C.I_i,fe,Bool.true_and]
  cases fitsN (goF f l) c b false==0<;>simp[stH]
theorem i_step {st:Option (List Str)} (hst:Known f (st.getD [])) {l:List Str} (hl:Known f l) {rk:List Int} (hrk:rk.length≤60) (hrs:(sortI rk).reverse=harmS f l) (N set:C) (cs:List (List C)):
  ap30 i_pVictims.d5 ([.b st.isSome,N,set]++f.e++c.e++b.e++[.l cs,.l ((st.getD []).map sE),.l ((stH f st).map iE),.l (l.map sE),.l (rk.map iE)])=
  some (.brk 3 ([.b (stepV f c b st l).isSome,N,set]++f.e++c.e++b.e++[.l cs,.l (((stepV f c b st l).getD []).map sE),.l ((stH f (stepV f c b st l)).map iE)])):=by
 have ht:=i_try hz hc hb hbo hv hr hh ha hst hl N set cs
 have e1:=sortIF_eq rk (by omega)
 have e2:=slices_Reverse_int_eq (sortI rk) (by rw[sortI,List.length_mergeSort];omega)
 rw[hrs] at e2
 simp only[Fl.e,Cp.e,Bt.e,jA,jB,apL,jC,jD] at ht
 simp only[Fl.e,Cp.e,Bt.e,jA,jB,apL,jC,jD,i_pVictims.d5,C.B_b,C.L_l,e1,e2,call1,jI]
 cases st with
 |none=>
  simp only[Option.isSome_none] at ht
  simp only[Option.isSome_none,jS,jJ,apL,jC,jD,ht,stepV]
 |some best=>
  have hst:Known f best:=hst
  have hn60:=(vb_of hv).n60
  have b1:=harmS_len hl
  have b2:=harmS_len hst
  have b3:=hl.len
  have b4:=hst.len
  have l1:=slices_Compare_int_eq (harmS f l) (harmS f best) (by omega) (by omega)
  have l3:=slices_Compare_string_eq l best (by omega) (by omega)
  simp only[Option.isSome_some,Option.getD_some,stH] at ht
  simp only[Option.isSome_some,Option.getD_some,stH,jR,l1,l3,call1,jI,jC,C.I_i,stepV,worse,gt_iff_lt,ge_iff_le]
  cases decide (0<lexC ltI (harmS f l) (harmS f best)) with
  |true=>simp
  |false=>
   simp only[ja,jR,Bool.false_or]
   cases lexC ltI (harmS f l) (harmS f best)==0 with
   |false=>simp only[jS,Bool.false_and,jJ,apL,jC,jD,ht]
   |true=>
    simp only[jR,Bool.true_and]
    cases decide (0≤lexC sLt l best) with
    |false=>simp only[jS,jJ,apL,jC,jD,ht]
    |true=>simp
theorem i_pVictims_eq:i_pVictims (f.e++c.e++b.e)=some [.b (vicAll f c b).isSome,.l (((vicAll f c b).getD []).map sE),.l ((stH f (vicAll f c b)).map iE)]:=by
 have hcl:=cands_len (vb_of hv) c b
 have hu:=uniq_of hv
 obtain ⟨p1,p2⟩:=shl_one hcl
 have h0:=i_cand_loop hz hc hb hbo hv hr hh ha
 have h:=run_loop (body:=ap28 i_pVictims.d7) (S:=fun k=>[C.b (vic f c b k).isSome,C.i ((2^(cands f c b).length:Nat):Int),C.i (k:Nat)]++f.e++c.e++b.e++[C.l ((cands f c b).map Cp.e),C.l (((vic f c b k).getD []).map sE),C.l ((stH f (vic f c b k)).map iE)]) (n:=2^(cands f c b).length) (b:=2) (ys:=[C.b (vicAll f c b).isSome,C.l (((vicAll f c b).getD []).map sE),C.l ((stH f (vicAll f c b)).map iE)])
  (fun k hk=>by
   have hb1:=i_bit_loop hz hc hb hbo hv hr hh ha (.b (vic f c b k).isSome) (2^(cands f c b).length) k (by omega) (cands f c b) hcl (((vic f c b k).getD []).map sE) ((stH f (vic f c b k)).map iE)
   have hs1:=i_step hz hc hb hbo hv hr hh ha (vic_known f c b k) (known_sub f c b k) (rk:=(subN (cands f c b) k (cands f c b).length).map Cp.rank) (by rw[jW];have:=subN_len (cands f c b) k (cands f c b).length;omega) (sub_ranks hu c b k) (.i ((2^(cands f c b).length:Nat):Int)) (.i (k:Nat)) ((cands f c b).map Cp.e)
   have hlt:((k:Int)<((2^(cands f c b).length:Nat):Int)):=by omega
   have hw:w64 ((k:Int)+1)=((k+1:Nat):Int):=by rw[w64_of (by omega) (by omega)];omega
   rw[show ((subN (cands f c b) k (cands f c b).length).map Cp.name)=subL f c b k from rfl] at hb1
   simp only[Fl.e,jA,jB,show c.e=[.s c.name,.s c.svc,.i c.rank,.i c.born,.i c.room,.i c.hold,.s c.sel,.l (c.likes.map Lk.e),.i c.apart,.s c.near,.s c.fixed,.s c.at_] from rfl,show b.e=[.s b.name,.s b.zone,.l (b.marks.map sE),.i b.room,.i b.hold,.b b.shut] from rfl] at hb1 hs1
   simp only[Fl.e,jA,jB,show c.e=[.s c.name,.s c.svc,.i c.rank,.i c.born,.i c.room,.i c.hold,.s c.sel,.l (c.likes.map Lk.e),.i c.apart,.s c.near,.s c.fixed,.s c.at_] from rfl,show b.e=[.s b.name,.s b.zone,.l (b.marks.map sE),.i b.room,.i b.hold,.b b.shut] from rfl,apL,jC,jD,i_pVictims.d7,C.I_i,C.L_l,jW,decide_true,jR,hlt,show nils=([]:List (List C)) from rfl] at hb1⊢
   rw[hb1]
   simp only[bindBlk_self,hs1,apL,jC,jD,i_pVictims.d6,C.I_i,C.L_l,hw]
   rfl)
  (by
   have hlt:¬(((2^(cands f c b).length:Nat):Int)<((2^(cands f c b).length:Nat):Int)):=by omega
   simp only[Fl.e,Cp.e,Bt.e,jA,jB,apL,jC,jD,i_pVictims.d7,C.I_i,C.L_l,hlt,decide_false,jS]
   rfl) (2^(cands f c b).length) 0 (by omega)
 simp only[vic,stH,Option.isSome_none,Option.getD_none,List.map_nil,Int.natCast_zero,Fl.e,jA,jB,show c.e=[.s c.name,.s c.svc,.i c.rank,.i c.born,.i c.room,.i c.hold,.s c.sel,.l (c.likes.map Lk.e),.i c.apart,.s c.near,.s c.fixed,.s c.at_] from rfl,show b.e=[.s b.name,.s b.zone,.l (b.marks.map sE),.i b.room,.i b.hold,.b b.shut] from rfl] at h h0
 simp only[show nils=([]:List (List C)) from rfl] at h0
 simp only[i_pVictims,i_pVictims.d10,Fl.e,jA,jB,show c.e=[.s c.name,.s c.svc,.i c.rank,.i c.born,.i c.room,.i c.hold,.s c.sel,.l (c.likes.map Lk.e),.i c.apart,.s c.near,.s c.fixed,.s c.at_] from rfl,show b.e=[.s b.name,.s b.zone,.l (b.marks.map sE),.i b.room,.i b.hold,.b b.shut] from rfl,apL,jC,jD,C.L_l,jW,show nils=([]:List (List C)) from rfl,h0,bindBlk_self,i_pVictims.d9,jX,decide_true,jR,jY,p1,h,i_pVictims.d8,C.B_b,jV]
 rfl
end
end Go.Ev
namespace Go.Ev
def victimsOf (f:Fl) (cn bn:Str):Option (List Str):=
 match f.cps[(cIx f cn).toNat]?,f.bts[(bIx f bn).toNat]? with
 |some c,some b=>bif validF f&&(decide (0≤cIx f cn)&&(decide (0≤bIx f bn)&&sEq c.at_ (mkS []))) then vicAll f c b else none
 |_,_=>none
section
variable {f:Fl} (hz:f.Sz 1048576) (cn bn:Str)
include hz
theorem i_PilotVictims_eq:i_PilotVictims (f.e++[.s cn,.s bn])=some [.b (victimsOf f cn bn).isSome,.l (((victimsOf f cn bn).getD []).map sE)]:=by
 have h1:=i_pCopyAt_eq f cn hz.2.2.1
 have h2:=i_pBerthAt_eq f bn hz.1.1
 have h3:=i_PilotValid_eq hz
 simp only[Fl.e,jA,jB] at h1 h2 h3
 simp only[i_PilotVictims,i_PilotVictims.d1,Fl.e,jA,jB,apL,jC,jD,h1,h2,h3,call1,jI,C.I_i,C.B_b,C.L_l,C.S_s,jW,victimsOf]
 rcases cIx_at f cn with h|⟨i,hi,e1,_⟩
 ·have:¬0≤cIx f cn:=by omega
  simp only[h,this,decide_true,decide_false,jZ,jS,Bool.false_and,Bool.and_false]
  split<;>rfl
 have n1:¬((i:Int)<0):=by omega
 rcases bIx_at f bn with h|⟨j,hj,e2,_⟩
 ·have:¬0≤bIx f bn:=by omega
  simp only[e1,n1,h,this,decide_true,decide_false,jZ,ja,jS,jR,Bool.false_and,Bool.and_false]
  split<;>rfl
 have n2:¬((j:Int)<0):=by omega
 have mi:=List.getElem_mem hi
 have mj:=List.getElem_mem hj
 have q0:(((f.cps[i].e.getD 11 C.nil).S).toList==(bs #[]).toList)=sEq f.cps[i].at_ (mkS []):=rfl
 simp only[e1,e2,n1,n2,jY,List.getElem?_eq_getElem hi,List.getElem?_eq_getElem hj,decide_false,decide_true,ja,jR,jX,ltL hi,ltL hj,getD_map' Cp.e hi,getD_map' Bt.e hj,Bool.true_and,q0]
 cases ha:sEq f.cps[i].at_ (mkS []) with
 |false=>simp
 |true=>
  cases hv:validF f with
  |false=>rfl
  |true=>
   have hV:=i_pVictims_eq hz (hz.2.2.2 _ mi) (hz.1.2 _ mj) ((vb_of hv).bb _ mj) hv (cp_room (vb_of hv) _ mi) (cp_hold (vb_of hv) _ mi) (cp_apart (vb_of hv) _ mi)
   simp only[Fl.e,Cp.e,Bt.e,jA,jB] at hV
   simp only[Cp.e,Bt.e,jC,jD,jZ,ja,jR,jS,hV,call3,jI,C.B_b,C.L_l,jV,Bool.and_self]
theorem s_PilotVictims_eq:s_PilotVictims (f.e++[.s cn,.s bn])=some [.b (victimsOf f cn bn).isSome,.l (((victimsOf f cn bn).getD []).map sE)]:=by
 have h1:=s_l2Copy_eq f cn hz.2.2.1
 have h2:=s_l2Berth_eq f bn hz.1.1
 have h3:=s_PilotValid_eq hz
 simp only[Fl.e,jA,jB] at h1 h2 h3
 simp only[s_PilotVictims,s_PilotVictims.d1,Fl.e,jA,jB,apL,jC,jD,h1,h2,h3,call1,jI,C.I_i,C.B_b,C.L_l,C.S_s,jW,victimsOf]
 cases hv:validF f with
 |false=>simp only[ja,jZ,Bool.false_and,jS];split<;>rfl
 |true=>
  simp only[jZ,ja,jR,Bool.true_and]
  rcases cIx_at f cn with h|⟨i,hi,e1,_⟩
  ·have:¬0≤cIx f cn:=by omega
   simp only[h,this,decide_true,decide_false,jZ,jS,Bool.false_and,Bool.and_false]
   split<;>rfl
  have n1:¬((i:Int)<0):=by omega
  rcases bIx_at f bn with h|⟨j,hj,e2,_⟩
  ·have:¬0≤bIx f bn:=by omega
   simp only[e1,n1,h,this,decide_true,decide_false,jZ,ja,jS,jR,Bool.false_and,Bool.and_false]
   split<;>rfl
  have n2:¬((j:Int)<0):=by omega
  have mi:=List.getElem_mem hi
  have mj:=List.getElem_mem hj
  have q0:(((f.cps[i].e.getD 11 C.nil).S).toList==(bs #[]).toList)=sEq f.cps[i].at_ (mkS []):=rfl
  simp only[e1,e2,n1,n2,jY,List.getElem?_eq_getElem hi,List.getElem?_eq_getElem hj,decide_false,decide_true,ja,jR,jX,ltL hi,ltL hj,getD_map' Cp.e hi,getD_map' Bt.e hj,Bool.true_and,q0]
  cases ha:sEq f.cps[i].at_ (mkS []) with
  |false=>rfl
  |true=>
   have hV:=s_l6Victims_eq hz (hz.2.2.2 _ mi) (hz.1.2 _ mj) ((vb_of hv).bb _ mj) hv (cp_room (vb_of hv) _ mi) (cp_hold (vb_of hv) _ mi)
   simp only[Fl.e,Cp.e,Bt.e,jA,jB] at hV
   simp only[Cp.e,Bt.e,jC,jD,jZ,ja,jR,jS,hV,call2,jI,C.B_b,C.L_l,jV]
end
theorem victims_len {f:Fl} (hz:f.Sz 1048576) (cn bn:Str):((victimsOf f cn bn).getD []).length≤1048576:=by
 unfold victimsOf
 split
 ·rename_i c b _ _
  generalize (validF f&&_)=q
  cases q with
  |false=>simp
  |true=>exact Nat.le_trans (vic_known f c b _).len hz.2.2.1
 ·simp
theorem FnExactPilotVictims_true (f:Fl) (cn bn:Str) (hz:f.Sz maxLen) (hc:cn.size≤maxLen) (hb:bn.size≤maxLen):w_FnExactPilotVictims (f.e++[.s cn]++[.s bn])=some [.b true]:=by
 have h1:=w_szPilotFleet_eq f 1048576 (by omega) (by omega) hz
 simp only[Fl.e,jA,jB] at h1
 simp only[w_FnExactPilotVictims,w_FnExactPilotVictims.d1,Fl.e,jA,jB,apL,jC,jD,C.S_s]
 by_cases q1:(cn.size:Int)>1048576
 ·simp[q1]
 by_cases q2:(bn.size:Int)>1048576
 ·simp[q1,q2]
 simp only[q1,q2,decide_false,jS]
 rcases h1 with h|⟨n,n0,n1,hz',h⟩
 ·simp[h,call1]
 have hn:¬n<0:=by omega
 have t1:=w_toPilotFleet_eq f hz'
 have t3:=w_eqPilotFleet_eq f hz'
 have s1:=s_PilotVictims_eq hz' cn bn
 have s2:=i_PilotVictims_eq hz' cn bn
 have mk:=w_markPilotFleet_eq hz' (k:=1) (by omega) (by omega)
 obtain ⟨u1,u2,u3⟩:=mkFl_up hz' (k:=1) (by omega)
 have hm:¬(mkFl f 1).2<0:=by omega
 have hl:=victims_len hz' cn bn
 generalize (victimsOf f cn bn).isSome=ok at s1 s2
 generalize (victimsOf f cn bn).getD []=r at s1 s2 hl
 have e1:=w_eqStringS_eq r ⟨hl,fun _ _=>trivial⟩
 have m1:=w_markStringS_eq r 1 hl (by omega) (by omega)
 have m2:=w_heldStringS_eq r 1 hl (by omega) (by omega)
 have m3:=mkStr_up r 1
 have hm3:¬(mkAll mkStr r 1).2<0:=by omega
 simp only[Fl.e,jA,jB] at t1 t3 s1 s2
 simp only[h,t1,t3,s1,s2,mk,e1,m1,m2,call1,call2,call4,jI,jC,jD,C.I_i,C.L_l,C.B_b,C.S_s,hn,hm,hm3,decide_false,jS,jZ,ja,jR,bne_self_eq_false,beq_self_eq_true,jV]
end Go.Ev
namespace Go.Ev
theorem dec_list {α:Type} (e:α→List C) (P:α→Prop):∀(es:List (List C)),(∀r,r∈es→∃x,r=e x∧P x)→∃l:List α,es=l.map e∧∀x,x∈l→P x
 |[],_=>⟨[],rfl,fun x h=>by simp at h⟩
 |r::es,h=>by
  obtain ⟨x,rfl,hx⟩:=h r (by simp)
  obtain ⟨l,rfl,hl⟩:=dec_list e P es fun r hr=>h r (by simp[hr])
  exact ⟨x::l,rfl,fun y hy=>by
   rcases List.mem_cons.1 hy with rfl|hy
   ·exact hx
   ·exact hl y hy⟩
theorem db_rows {T:Tys} {e:TypeId} {d:TD} {c:C} (h:DB T (.sl e) c) (hd:tget T e=some d):∃es:List (List C),c=.l es∧es.length≤maxLen∧∀r,r∈es→r.length=d.cts.length∧∀(j:Nat) (c:C) (ct:CT),r[j]?=some c→d.cts[j]?=some ct→DB T ct c:=by
 cases h with
 |l e es h h1 h2=>exact ⟨es,rfl,h,fun r hr=>⟨h1 r d hr hd,fun j c ct=>h2 r d j c ct hr hd⟩⟩
theorem db_str {T:Tys} {c:C} (h:DB T .str c):∃s:Str,c=.s s∧s.size≤maxLen:=by cases h with|s x h=>exact ⟨x,rfl,h⟩
theorem db_int {T:Tys} {k:IntKind} {c:C} (h:DB T (.int k) c):∃n:Int,c=.i n:=by cases h with|i k n h=>exact ⟨n,rfl⟩
theorem db_bool {T:Tys} {c:C} (h:DB T .bool c):∃b:Bool,c=.b b:=by cases h with|b x=>exact ⟨x,rfl⟩
theorem db_strs {c:C} (h:DB T0 (.sl 9) c):∃l:List Str,c=.l (l.map sE)∧SsSz maxLen l:=by
 obtain ⟨es,rfl,hl,hr⟩:=db_rows h (d:=⟨.str,[.str],16⟩) rfl
 obtain ⟨l,rfl,h2⟩:=dec_list sE (fun s=>s.size≤maxLen) es fun r hr'=>by
  obtain ⟨h1,h2⟩:=hr r hr'
  match r,h1 with
  |[c],_=>
   obtain ⟨s,rfl,hs⟩:=db_str (h2 0 c .str rfl rfl)
   exact ⟨s,rfl,hs⟩
 exact ⟨l,rfl,by simpa using hl,h2⟩
theorem db_Bt {c:C} (h:DB T0 (.sl 29) c):∃l:List Bt,c=.l (l.map Bt.e)∧l.length≤maxLen∧∀x,x∈l→(fun x=>x.Sz maxLen) x:=by
 obtain ⟨es,rfl,hl,hr⟩:=db_rows h (d:=⟨(.st [(0,9),(1,9),(2,27),(3,3),(4,3),(5,4)]),[.str,.str,(.sl 9),(.int .i64),(.int .i64),.bool],80⟩) rfl
 obtain ⟨l,rfl,h2⟩:=dec_list Bt.e (fun x=>x.Sz maxLen) es fun r hr'=>by
  obtain ⟨h1,h2⟩:=hr r hr'
  match r,h1 with
  |[x0,x1,x2,x3,x4,x5],_=>
   obtain ⟨x0,rfl,sx0⟩:=db_str (h2 0 x0 _ rfl rfl)
   obtain ⟨x1,rfl,sx1⟩:=db_str (h2 1 x1 _ rfl rfl)
   obtain ⟨x2,rfl,zx2⟩:=db_strs (h2 2 x2 _ rfl rfl)
   obtain ⟨x3,rfl⟩:=db_int (h2 3 x3 _ rfl rfl)
   obtain ⟨x4,rfl⟩:=db_int (h2 4 x4 _ rfl rfl)
   obtain ⟨x5,rfl⟩:=db_bool (h2 5 x5 _ rfl rfl)
   exact ⟨⟨x0,x1,x2,x3,x4,x5⟩,rfl,⟨sx0,sx1,zx2⟩⟩
 exact ⟨l,rfl,by simpa using hl,h2⟩
theorem db_Sv {c:C} (h:DB T0 (.sl 118) c):∃l:List Sv,c=.l (l.map Sv.e)∧l.length≤maxLen∧∀x,x∈l→(fun x=>x.Sz maxLen) x:=by
 obtain ⟨es,rfl,hl,hr⟩:=db_rows h (d:=⟨(.st [(0,9),(1,3)]),[.str,(.int .i64)],24⟩) rfl
 obtain ⟨l,rfl,h2⟩:=dec_list Sv.e (fun x=>x.Sz maxLen) es fun r hr'=>by
  obtain ⟨h1,h2⟩:=hr r hr'
  match r,h1 with
  |[x0,x1],_=>
   obtain ⟨x0,rfl,sx0⟩:=db_str (h2 0 x0 _ rfl rfl)
   obtain ⟨x1,rfl⟩:=db_int (h2 1 x1 _ rfl rfl)
   exact ⟨⟨x0,x1⟩,rfl,sx0⟩
 exact ⟨l,rfl,by simpa using hl,h2⟩
theorem db_Lk {c:C} (h:DB T0 (.sl 148) c):∃l:List Lk,c=.l (l.map Lk.e)∧l.length≤maxLen∧∀x,x∈l→(fun x=>x.sel.size≤maxLen) x:=by
 obtain ⟨es,rfl,hl,hr⟩:=db_rows h (d:=⟨(.st [(0,9),(1,3)]),[.str,(.int .i64)],24⟩) rfl
 obtain ⟨l,rfl,h2⟩:=dec_list Lk.e (fun x=>x.sel.size≤maxLen) es fun r hr'=>by
  obtain ⟨h1,h2⟩:=hr r hr'
  match r,h1 with
  |[x0,x1],_=>
   obtain ⟨x0,rfl,sx0⟩:=db_str (h2 0 x0 _ rfl rfl)
   obtain ⟨x1,rfl⟩:=db_int (h2 1 x1 _ rfl rfl)
   exact ⟨⟨x0,x1⟩,rfl,sx0⟩
 exact ⟨l,rfl,by simpa using hl,h2⟩
theorem db_Cp {c:C} (h:DB T0 (.sl 32) c):∃l:List Cp,c=.l (l.map Cp.e)∧l.length≤maxLen∧∀x,x∈l→(fun x=>x.Sz maxLen) x:=by
 obtain ⟨es,rfl,hl,hr⟩:=db_rows h (d:=⟨(.st [(0,9),(1,9),(2,3),(3,3),(4,3),(5,3),(6,9),(7,30),(8,3),(9,9),(10,9),(11,9)]),[.str,.str,(.int .i64),(.int .i64),(.int .i64),(.int .i64),.str,(.sl 148),(.int .i64),.str,.str,.str],160⟩) rfl
 obtain ⟨l,rfl,h2⟩:=dec_list Cp.e (fun x=>x.Sz maxLen) es fun r hr'=>by
  obtain ⟨h1,h2⟩:=hr r hr'
  match r,h1 with
  |[x0,x1,x2,x3,x4,x5,x6,x7,x8,x9,x10,x11],_=>
   obtain ⟨x0,rfl,sx0⟩:=db_str (h2 0 x0 _ rfl rfl)
   obtain ⟨x1,rfl,sx1⟩:=db_str (h2 1 x1 _ rfl rfl)
   obtain ⟨x2,rfl⟩:=db_int (h2 2 x2 _ rfl rfl)
   obtain ⟨x3,rfl⟩:=db_int (h2 3 x3 _ rfl rfl)
   obtain ⟨x4,rfl⟩:=db_int (h2 4 x4 _ rfl rfl)
   obtain ⟨x5,rfl⟩:=db_int (h2 5 x5 _ rfl rfl)
   obtain ⟨x6,rfl,sx6⟩:=db_str (h2 6 x6 _ rfl rfl)
   obtain ⟨x7,rfl,zx7⟩:=db_Lk (h2 7 x7 _ rfl rfl)
   obtain ⟨x8,rfl⟩:=db_int (h2 8 x8 _ rfl rfl)
   obtain ⟨x9,rfl,sx9⟩:=db_str (h2 9 x9 _ rfl rfl)
   obtain ⟨x10,rfl,sx10⟩:=db_str (h2 10 x10 _ rfl rfl)
   obtain ⟨x11,rfl,sx11⟩:=db_str (h2 11 x11 _ rfl rfl)
   exact ⟨⟨x0,x1,x2,x3,x4,x5,x6,x7,x8,x9,x10,x11⟩,rfl,⟨sx0,sx1,sx6,sx9,sx10,sx11,zx7⟩⟩
 exact ⟨l,rfl,by simpa using hl,h2⟩
abbrev ctsFl:List CT:=[.bool,(.sl 29),(.sl 118),(.sl 32)]
theorem rd_Fl {w:World} {vs:List Value} {xs:List C} (h:Rd T0 w ctsFl vs xs):∃f:Fl,xs=f.e∧f.Sz maxLen:=by
 obtain ⟨h1,_,_,h2⟩:=h
 match xs,h1 with
 |[x0,x1,x2,x3],_=>
  obtain ⟨x0,rfl⟩:=db_bool (h2 0 x0 _ rfl rfl)
  obtain ⟨x1,rfl,zx1⟩:=db_Bt (h2 1 x1 _ rfl rfl)
  obtain ⟨x2,rfl,zx2⟩:=db_Sv (h2 2 x2 _ rfl rfl)
  obtain ⟨x3,rfl,zx3⟩:=db_Cp (h2 3 x3 _ rfl rfl)
  exact ⟨⟨x0,x1,x2,x3⟩,rfl,⟨zx1,zx2,zx3⟩⟩
theorem rd_str {w:World} {v:Value} {xs:List C} (h:Rd T0 w [.str] [v] xs):∃s:Str,xs=[.s s]∧s.size≤maxLen∧RelC T0 (fun k=>k<w.heap.size) w .str (.s s) v:=by
 obtain ⟨h1,_,h3,h2⟩:=h
 match xs,h1 with
 |[a],_=>
  obtain ⟨a',rfl,ha⟩:=db_str (h2 0 a _ rfl rfl)
  exact ⟨a',rfl,ha,h3 0 _ _ v rfl rfl rfl⟩
end Go.Ev
