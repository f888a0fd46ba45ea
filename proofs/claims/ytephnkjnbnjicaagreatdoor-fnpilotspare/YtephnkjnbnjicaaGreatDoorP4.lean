/- Proved here: the law FnPilotSpareCard of the given program answers true at every input, and leaves the input as it was; no condition. This text: lemmas on the way (an evaluator of the program's code, sound once for all; the functions it prints; plain proofs on these). -/
import Derived.Test.YtephnkjnbnjicaaGreatDoorP3
set_option linter.all false
set_option autoImplicit false
set_option maxRecDepth 8000
namespace Go.Ev
def Tr.enc:Tr→C
 |.lf k n v=>.p [.i (k:Nat),.s (mkS n),.s (mkS v),.l []]
 |.un t=>.p [.i 3,.s (mkS []),.s (mkS []),.l [[t.enc]]]
 |.bn k a b=>.p [.i (k:Nat),.s (mkS []),.s (mkS []),.l [[a.enc],[b.enc]]]
def Jd (s:Str) (n:Nat) (p:Option (Tr×List Tok)) (c:C) (i':Nat) (ok:Bool):Prop:=
 i'≤s.data.toList.length∧match p with
  |some (t,r)=>ok=true∧c=t.enc∧dx (s.data.toList.drop i')=r∧r.length<n
  |none=>ok=false
def IP (s:Str) (G:List C→Option (List C)) (f:List Tok→Option (Tr×List Tok)) (i:Nat):Prop:=
 ∃c i' ok,G [.s s,.i i,.b true]=some [c,.s s,.i (i':Nat),.b ok]∧Jd s (dx (s.data.toList.drop i)).length (f (dx (s.data.toList.drop i))) c i' ok
section
variable {s:Str} (hl:s.size≤1048576)
include hl
theorem Gm (G:List C→Option (List C)) (f:List Tok→Option (Tr×List Tok)) (op:UInt8) (kd:Nat) (body:C→C→C→C→R) (lo:Nat) (h1:dI op=false) (h2:op≠32)
  (hb:∀a b c d,body a b c d=(bif d.B then (call4 (bA [.i (op.toNat:Nat),b,c,d]) fun e f g h=>(bif e.B then (call4 (G [f,g,h]) fun i j k l=>(some (.again [.p [.i (kd:Nat),.s (bs #[]),.s (bs #[]),.l (rows [[a],[i]])],j,k,l]))) else (some (.brk 0 [a,f,g,h])))) else (some (.brk 0 [a,b,c,d]))))
  (hG:∀i,i≤s.data.toList.length→(dx (s.data.toList.drop i)).length≤lo→IP s G f i):
  ∀(m i:Nat) (t:Tr),(dx (s.data.toList.drop i)).length≤m→(dx (s.data.toList.drop i)).length≤lo+1→i≤s.data.toList.length→
   ∃c i' ok,lim (apn 4 body) [t.enc,.s s,.i i,.b true]=some (.brk 0 [c,.s s,.i (i':Nat),.b ok])∧i'≤s.data.toList.length∧
    match opL f [op] kd m t (dx (s.data.toList.drop i)) with
     |some (u,r)=>ok=true∧c=u.enc∧dx (s.data.toList.drop i')=r∧r.length≤(dx (s.data.toList.drop i)).length
     |none=>ok=false
 |m,i,t,hm,hlo,hi=>by
  obtain ⟨i',hi',b,ht,hm2⟩:=uy hl op h1 h2 i true hi
  have hstep:apn 4 body [t.enc,.s s,.i i,.b true]=(bif b then (call4 (G [.s s,.i (i':Nat),.b true]) fun i j k l=>(some (.again [.p [.i (kd:Nat),.s (mkS []),.s (mkS []),.l [[t.enc],[i]]],j,k,l]))) else (some (.brk 0 [t.enc,.s s,.i (i':Nat),.b true]))):=by
   simp only[apL,jC,jD,hb,C.B_b,jR,ht,call4,jI,eX,rows]
  cases hd:dx (s.data.toList.drop i) with
  |nil=>
   rw[hd] at hm2
   simp only at hm2
   obtain ⟨rfl,hm3⟩:=hm2
   refine ⟨t.enc,i',true,aU hstep,hi',?_⟩
   cases m<;>simp[opL,hm3]
  |cons x r=>
   rw[hd] at hm2 hm hlo
   simp only[List.length_cons] at hm hlo
   obtain ⟨m,rfl⟩:∃m',m=m'+1:=⟨m-1,by omega⟩
   by_cases he:x=[op]
   ·simp only[if_pos he] at hm2
    obtain ⟨rfl,hm3⟩:=hm2
    obtain ⟨c,i2,ok,hg,q1,q2⟩:=hG i' hi' (by rw[hm3];omega)
    rw[hm3] at q2
    simp only[jR,hg,call4,jI,jC,jD] at hstep
    rw[aI hstep]
    simp only[opL,if_pos he]
    cases hf:f r with
    |none=>
     rw[hf] at q2
     simp only at q2
     subst q2
     exact ⟨.p [.i (kd:Nat),.s (mkS []),.s (mkS []),.l [[t.enc],[c]]],i2,false,aU (by simp only[apL,jC,jD,hb,C.B_b,jS]),q1,rfl⟩
    |some p=>
     obtain ⟨u,r'⟩:=p
     rw[hf] at q2
     obtain ⟨rfl,rfl,q3,q4⟩:=q2
     obtain ⟨c3,i3,ok3,p1,p2,p3⟩:=Gm G f op kd body lo h1 h2 hb hG m i2 (.bn kd t u) (by rw[q3];omega) (by rw[q3];omega) q1
     refine ⟨c3,i3,ok3,p1,p2,?_⟩
     rw[q3] at p3
     simp only
     cases ho:opL f [op] kd m (.bn kd t u) r' with
     |none=>rw[ho] at p3;exact p3
     |some z=>
      rw[ho] at p3
      exact ⟨p3.1,p3.2.1,p3.2.2.1,by simp only[List.length_cons];have:=p3.2.2.2;omega⟩
   ·simp only[if_neg he] at hm2
    obtain ⟨rfl,hm3⟩:=hm2
    refine ⟨t.enc,i',true,aU hstep,hi',?_⟩
    simp[opL,he,hm3]
theorem I5 (G:List C→Option (List C)) (f:List Tok→Option (Tr×List Tok)) (op:UInt8) (kd:Nat) (body:C→C→C→C→R) (d2:C→C→C→C→R) (i:Nat) (hi:i≤s.data.toList.length) (h1:dI op=false) (h2:op≠32)
  (hb:∀a b c d,body a b c d=(bif d.B then (call4 (bA [.i (op.toNat:Nat),b,c,d]) fun e f g h=>(bif e.B then (call4 (G [f,g,h]) fun i j k l=>(some (.again [.p [.i (kd:Nat),.s (bs #[]),.s (bs #[]),.l (rows [[a],[i]])],j,k,l]))) else (some (.brk 0 [a,f,g,h])))) else (some (.brk 0 [a,b,c,d]))))
  (h3:∀a b c d,d2 a b c d=some (.ret [a,b,c,d])) (hG:∀i2,i2≤s.data.toList.length→(dx (s.data.toList.drop i2)).length≤(dx (s.data.toList.drop i)).length→IP s G f i2):
  ∃c i' ok,aY (call4 (G [.s s,.i i,.b true]) fun d e f g=>(ah 0 (lim (apn 4 body) [d,e,f,g]) (apn 4 d2)))=some [c,.s s,.i (i':Nat),.b ok]∧
   Jd s (dx (s.data.toList.drop i)).length (match f (dx (s.data.toList.drop i)) with
   |none=>none
   |some (t,r)=>opL f [op] kd r.length t r) c i' ok:=by
 obtain ⟨c,i',ok,hg,q1,q2⟩:=hG i hi (Nat.le_refl _)
 rw[hg]
 simp only[call4,jI,jC,jD]
 cases hf:f (dx (s.data.toList.drop i)) with
 |none=>
  rw[hf] at q2
  simp only at q2
  subst q2
  refine ⟨c,i',false,?_,q1,rfl⟩
  rw[aU (ys:=[c,.s s,.i (i':Nat),.b false]) (i:=0) (by simp[hb])]
  simp[h3]
 |some p=>
  obtain ⟨t,r⟩:=p
  rw[hf] at q2
  obtain ⟨rfl,rfl,q3,q4⟩:=q2
  obtain ⟨c2,i2,ok2,p1,p2,p3⟩:=Gm hl G f op kd body (dx (s.data.toList.drop i)).length h1 h2 hb hG r.length i' t (by rw[q3];omega) (by rw[q3];omega) q1
  rw[p1]
  rw[q3] at p3
  have hres:Jd s (dx (s.data.toList.drop i)).length (opL f [op] kd r.length t r) c2 i2 ok2:=by
   refine ⟨p2,?_⟩
   cases ho:opL f [op] kd r.length t r with
   |none=>rw[ho] at p3;exact p3
   |some z=>
    rw[ho] at p3
    exact ⟨p3.1,p3.2.1,p3.2.2.1,by have:=p3.2.2.2;omega⟩
  exact ⟨c2,i2,ok2,by simp[h3],hres⟩
theorem I7:∀(j c k i:Nat),c≤2→i≤s.data.toList.length→3*(dx (s.data.toList.drop i)).length+(3-c)≤j→j≤k→IP s (av.g k c) (prs j c) i
 |0,c,k,i,hc,hi,hj,hk=>by omega
 |j+1,c,k,i,hc,hi,hj,hk=>by
  obtain ⟨k,rfl⟩:∃k',k=k'+1:=⟨k-1,by omega⟩
  have ih:=I7 j
  rcases (show c=0∨c=1∨c=2 by omega) with rfl|rfl|rfl
  ·obtain ⟨c,i',ok,h1,h2⟩:=I5 hl (av.g k 1) (prs j 1) 124 5 (av.d1 (av.g k 0) (av.g k 1) (av.g k 2)) (av.d2 (av.g k 0) (av.g k 1) (av.g k 2)) i hi rfl (by decide)
    (fun _ _ _ _=>rfl) (fun _ _ _ _=>rfl) (fun b h1 h2=>ih 1 k b (by omega) h1 (by omega) (by omega))
   exact ⟨c,i',ok,h1,h2⟩
  ·obtain ⟨c,i',ok,h1,h2⟩:=I5 hl (av.g k 2) (prs j 2) 38 4 (dG.d1 (av.g k 0) (av.g k 1) (av.g k 2)) (dG.d2 (av.g k 0) (av.g k 1) (av.g k 2)) i hi rfl (by decide)
    (fun _ _ _ _=>rfl) (fun _ _ _ _=>rfl) (fun b h1 h2=>ih 2 k b (by omega) h1 (by omega) (by omega))
   exact ⟨c,i',ok,h1,h2⟩
  ·have hstep:av.g (k+1) 2 [.s s,.i i,.b true]=aY (fi.d1 (av.g k 0) (av.g k 1) (av.g k 2) (.s s) (.i i) (.b true)):=rfl
   unfold IP
   rw[hstep]
   obtain ⟨i1,hi1,b1,ht1,hm1⟩:=uy hl 33 rfl (by decide) i true hi
   have ht1:bA [.i 33,.s s,.i i,.b true]=_:=ht1
   simp only[fi.d1,C.B_b,jZ,jS,ht1,call4,jI,jC,jD]
   cases hd:dx (s.data.toList.drop i) with
   |nil=>
    rw[hd] at hm1
    simp only at hm1
    obtain ⟨rfl,hm1⟩:=hm1
    obtain ⟨i2,hi2,b2,ht2,hm2⟩:=uy hl 40 rfl (by decide) i1 true hi1
    have ht2:bA [.i 40,.s s,.i i1,.b true]=_:=ht2
    rw[hm1] at hm2
    simp only at hm2
    obtain ⟨rfl,hm2⟩:=hm2
    obtain ⟨i3,hi3,z,b3,hn3,hm3⟩:=DA hl i2 true hi2
    rw[hm2] at hm3
    simp only at hm3
    subst hm3
    simp only[jS,ht2,hn3,jI,jC,jD,C.B_b,jV]
    exact ⟨_,_,_,rfl,hi3,by simp[prs]⟩
   |cons x r=>
    rw[hd] at hm1 hj
    simp only[List.length_cons] at hj
    by_cases x33:x=[33]
    ·simp only[if_pos x33] at hm1
     obtain ⟨rfl,hm1⟩:=hm1
     obtain ⟨c,i2,ok,hg,q1,q2⟩:=ih 2 k i1 (by omega) hi1 (by rw[hm1];omega) (by omega)
     rw[hm1] at q2
     simp only[jR,hg,jI,jC,jD,rows,eX,jV]
     refine ⟨_,_,_,rfl,q1,?_⟩
     simp only[prs,x33,if_true]
     cases hf:prs j 2 r with
     |none=>rw[hf] at q2;exact q2
     |some p=>
      rw[hf] at q2
      obtain ⟨rfl,rfl,q3,q4⟩:=q2
      exact ⟨rfl,rfl,q3,by simp only[List.length_cons];omega⟩
    simp only[if_neg x33] at hm1
    obtain ⟨rfl,hm1⟩:=hm1
    obtain ⟨i2,hi2,b2,ht2,hm2⟩:=uy hl 40 rfl (by decide) i1 true hi1
    have ht2:bA [.i 40,.s s,.i i1,.b true]=_:=ht2
    rw[hm1] at hm2
    simp only at hm2
    simp only[jS,ht2,jI,jC,jD,C.B_b]
    by_cases x40:x=[40]
    ·simp only[if_pos x40] at hm2
     obtain ⟨rfl,hm2⟩:=hm2
     obtain ⟨c,i3,ok,hg,q1,q2⟩:=ih 0 k i2 (by omega) hi2 (by rw[hm2];omega) (by omega)
     rw[hm2] at q2
     have hp:prs (j+1) 2 (x::r)=match prs j 0 r with
       |some (t,y::r')=>if y=[41] then some (t,r') else none
       |_=>none:=by
      simp only[prs,if_neg x33,if_pos x40]<;>rcases prs j 0 r with _|⟨t,_|⟨y,r'⟩⟩<;>rfl
     rw[hp]
     simp only[jR,hg,jI,jC,jD,C.B_b]
     cases hf:prs j 0 r with
     |none=>
      rw[hf] at q2
      simp only at q2
      subst q2
      simp only[jS,jV]
      exact ⟨_,_,_,rfl,q1,rfl⟩
     |some p=>
      obtain ⟨t,z⟩:=p
      rw[hf] at q2
      obtain ⟨rfl,rfl,q3,q4⟩:=q2
      obtain ⟨i4,hi4,b4,ht4,hm4⟩:=uy hl 41 rfl (by decide) i3 true q1
      have ht4:bA [.i 41,.s s,.i i3,.b true]=_:=ht4
      rw[q3] at hm4
      simp only[jR,ht4,jI,jC,jD,C.B_b,jV]
      refine ⟨_,_,_,rfl,hi4,?_⟩
      cases z with
      |nil=>exact hm4.1
      |cons y r'=>
       simp only at hm4⊢
       by_cases y41:y=[41]
       ·simp only[if_pos y41] at hm4⊢
        simp only[List.length_cons] at q4⊢
        exact ⟨hm4.1,trivial,hm4.2,by omega⟩
       ·simp only[if_neg y41] at hm4⊢
        exact hm4.1
    simp only[if_neg x40] at hm2
    obtain ⟨rfl,hm2⟩:=hm2
    obtain ⟨i3,hi3,z,b3,hn3,hm3⟩:=DA hl i2 true hi2
    rw[hm2] at hm3
    simp only at hm3
    simp only[jS,hn3,jI,jC,jD,C.B_b]
    cases hn:bd (mkS x) with
    |false=>
     rw[hn] at hm3
     simp only[Bool.false_eq_true,if_false] at hm3
     subst hm3
     simp only[jS,jV]
     exact ⟨_,_,_,rfl,hi3,by simp[prs,x33,x40,hn]⟩
    |true=>
     rw[hn] at hm3
     simp only[if_true] at hm3
     obtain ⟨rfl,rfl,hm3⟩:=hm3
     obtain ⟨i4,hi4,b4,ht4,hm4⟩:=uy hl 61 rfl (by decide) i3 true hi3
     have ht4:bA [.i 61,.s s,.i i3,.b true]=_:=ht4
     rw[hm3] at hm4
     simp only[jR,ht4,jI,jC,jD,C.B_b]
     cases r with
     |nil=>
      simp only at hm4
      obtain ⟨rfl,hm4⟩:=hm4
      simp only[jS,rows,af,eX,jV]
      refine ⟨_,_,_,rfl,hi4,?_⟩
      simp only[prs,if_neg x33,if_neg x40,hn,if_true]
      exact ⟨trivial,rfl,hm4,by simp⟩
     |cons y r'=>
      simp only at hm4
      by_cases y61:y=[61]
      ·simp only[if_pos y61] at hm4
       obtain ⟨rfl,hm4⟩:=hm4
       obtain ⟨i5,hi5,z5,b5,hn5,hm5⟩:=DA hl i4 true hi4
       rw[hm4] at hm5
       simp only[jR,hn5,jI,jC,jD,rows,af,jV]
       refine ⟨_,_,_,rfl,hi5,?_⟩
       cases r' with
       |nil=>
        simp only at hm5
        subst hm5
        simp[prs,x33,x40,hn,y61]
       |cons v r''=>
        simp only at hm5
        cases hv:bd (mkS v) with
        |false=>
         rw[hv] at hm5
         simp only[Bool.false_eq_true,if_false] at hm5
         subst hm5
         simp[prs,x33,x40,hn,y61,hv]
        |true=>
         rw[hv] at hm5
         simp only[if_true] at hm5
         obtain ⟨rfl,rfl,hm5⟩:=hm5
         simp only[prs,if_neg x33,if_neg x40,hn,if_true,y61,hv]
         exact ⟨trivial,rfl,hm5,by simp only[List.length_cons];omega⟩
      ·simp only[if_neg y61] at hm4
       obtain ⟨rfl,hm4⟩:=hm4
       simp only[jS,rows,af,eX,jV]
       refine ⟨_,_,_,rfl,hi4,?_⟩
       simp only[prs,if_neg x33,if_neg x40,hn,if_true,if_neg y61]
       exact ⟨trivial,rfl,hm4,by simp⟩
end
end Go.Ev
namespace Go.Ev
def Tr.Wf:Tr→Prop
 |.lf k n v=>bd (mkS n)=true∧((k=1∧v=[])∨(k=2∧bd (mkS v)=true))
 |.un t=>t.Wf
 |.bn k a b=>(k=4∨k=5)∧a.Wf∧b.Wf
def Tr.sz:Tr→Nat
 |.lf _ _ _=>1
 |.un t=>t.sz+1
 |.bn _ a b=>a.sz+b.sz+1
def Tr.depth:Tr→Nat
 |.lf _ _ _=>0
 |.un t=>t.depth+1
 |.bn _ a b=>max a.depth b.depth+1
theorem Tr.rH:∀t:Tr,0<t.sz
 |.lf _ _ _=>by simp[Tr.sz]
 |.un t=>by simp[Tr.sz]
 |.bn _ a b=>by simp[Tr.sz]
theorem Tr.l8:∀t:Tr,t.depth<t.sz
 |.lf _ _ _=>by simp[Tr.sz,Tr.depth]
 |.un t=>by have:=t.l8;simp[Tr.sz,Tr.depth];exact this
 |.bn _ a b=>by have:=a.l8;have:=b.l8;simp only[Tr.sz,Tr.depth];omega
theorem Tr.ck:∀t:Tr,t.flat.length=t.sz
 |.lf _ _ _=>rfl
 |.un t=>by simp[Tr.flat,Tr.sz,t.ck]
 |.bn _ a b=>by simp[Tr.flat,Tr.sz,a.ck,b.ck];omega
def sk (x:Tok):Prop:=bd (mkS x)=true∨x=[33]∨x=[40]∨x=[41]∨x=[61]∨x=[124]∨x=[38]
def Pre (l:List Tok) (t:Tr) (r:List Tok):Prop:=∃p,l=p++r∧(∀x,x∈p→sk x)∧t.sz≤p.length∧t.Wf
theorem DD (f:List Tok→Option (Tr×List Tok)) (op:Tok) (kd:Nat) (hop:sk op) (hk:kd=4∨kd=5) (hf:∀l t r,f l=some (t,r)→Pre l t r):∀(m:Nat) (t:Tr) (l:List Tok) (u:Tr) (r l0:List Tok),
  Pre l0 t l→opL f op kd m t l=some (u,r)→Pre l0 u r
 |0,t,l,u,r,l0,h0,h=>by
  simp only[opL,Option.some.injEq,Prod.mk.injEq] at h
  obtain ⟨rfl,rfl⟩:=h;exact h0
 |m+1,t,[],u,r,l0,h0,h=>by
  simp only[opL,Option.some.injEq,Prod.mk.injEq] at h
  obtain ⟨rfl,rfl⟩:=h;exact h0
 |m+1,t,x::l,u,r,l0,h0,h=>by
  simp only[opL] at h
  split at h
  ·rename_i hx
   split at h
   ·simp at h
   ·rename_i t' r'' hq
    refine DD f op kd hop hk hf m _ _ u r l0 ?_ h
    obtain ⟨p,rfl,q2,q3,q4⟩:=h0
    obtain ⟨p',rfl,q2',q3',q4'⟩:=hf _ _ _ hq
    refine ⟨p++x::p',by simp,fun y hy=>?_,by simp[Tr.sz];omega,hk,q4,q4'⟩
    rcases List.mem_append.1 hy with hy|hy
    ·exact q2 y hy
    ·rcases List.mem_cons.1 hy with rfl|hy
     ·rw[hx];exact hop
     ·exact q2' y hy
  ·simp only[Option.some.injEq,Prod.mk.injEq] at h
   obtain ⟨rfl,rfl⟩:=h;exact h0
theorem na:∀(j c:Nat) (l:List Tok) (t:Tr) (r:List Tok),prs j c l=some (t,r)→Pre l t r
 |0,c,l,t,r,h=>by simp[prs] at h
 |j+1,0,l,t,r,h=>by
  simp only[prs] at h
  split at h
  ·simp at h
  ·rename_i t' r' hq
   exact DD (prs j 1) [124] 5 (by simp[sk]) (.inr rfl) (fun l t r=>na j 1 l t r) _ _ _ _ _ l (na j 1 _ _ _ hq) h
 |j+1,1,l,t,r,h=>by
  simp only[prs] at h
  split at h
  ·simp at h
  ·rename_i t' r' hq
   exact DD (prs j 2) [38] 4 (by simp[sk]) (.inl rfl) (fun l t r=>na j 2 l t r) _ _ _ _ _ l (na j 2 _ _ _ hq) h
 |j+1,c+2,[],t,r,h=>by simp[prs] at h
 |j+1,c+2,x::l,t,r,h=>by
  simp only[prs] at h
  split at h
  ·rename_i hx
   split at h
   ·simp at h
   ·rename_i t' r' hq
    simp only[Option.some.injEq,Prod.mk.injEq] at h
    obtain ⟨rfl,rfl⟩:=h
    obtain ⟨p,rfl,q2,q3,q4⟩:=na j 2 _ _ _ hq
    refine ⟨x::p,rfl,fun y hy=>?_,by simp[Tr.sz];omega,q4⟩
    rcases List.mem_cons.1 hy with rfl|hy
    ·rw[hx];simp[sk]
    ·exact q2 y hy
  ·split at h
   ·rename_i hx
    split at h
    ·rename_i t' y r' hq
     split at h
     ·rename_i hy41
      simp only[Option.some.injEq,Prod.mk.injEq] at h
      obtain ⟨rfl,rfl⟩:=h
      obtain ⟨p,hp,q2,q3,q4⟩:=na j 0 _ _ _ hq
      refine ⟨x::(p++[y]),by rw[hp];simp,fun z hz=>?_,by simp;omega,q4⟩
      rcases List.mem_cons.1 hz with rfl|hz
      ·rw[hx];simp[sk]
      ·rcases List.mem_append.1 hz with hz|hz
       ·exact q2 z hz
       ·simp at hz;subst hz;rw[hy41];simp[sk]
     ·simp at h
    ·simp at h
   ·split at h
    ·rename_i hn
     split at h
     ·rename_i y r'
      split at h
      ·rename_i hy61
       split at h
       ·rename_i v r''
        split at h
        ·rename_i hv
         simp only[Option.some.injEq,Prod.mk.injEq] at h
         obtain ⟨rfl,rfl⟩:=h
         refine ⟨[x,y,v],rfl,fun z hz=>?_,by simp[Tr.sz],hn,.inr ⟨rfl,hv⟩⟩
         simp at hz
         rcases hz with rfl|rfl|rfl
         ·exact .inl hn
         ·rw[hy61];simp[sk]
         ·exact .inl hv
        ·simp at h
       ·simp at h
      ·simp only[Option.some.injEq,Prod.mk.injEq] at h
       obtain ⟨rfl,rfl⟩:=h
       refine ⟨[x],rfl,fun z hz=>?_,by simp[Tr.sz],hn,.inl ⟨rfl,rfl⟩⟩
       simp at hz;subst hz;exact .inl hn
     ·simp only[Option.some.injEq,Prod.mk.injEq] at h
      obtain ⟨rfl,rfl⟩:=h
      refine ⟨[x],rfl,fun z hz=>?_,by simp[Tr.sz],hn,.inl ⟨rfl,rfl⟩⟩
      simp at hz;subst hz;exact .inl hn
    ·simp at h
theorem y6:∀r:List UInt8,r.all gV=(r.dropWhile dI).all gV
 |[]=>rfl
 |x::r=>by
  rw[List.dropWhile_cons]
  cases hx:dI x with
  |true=>simp only[if_true,List.all_cons];rw[y6 r];simp[gV,hx]
  |false=>simp
theorem qL:∀(n:Nat) (l:List UInt8),l.length≤n→(∀x,x∈dx l→sk x)→l.all gV=true
 |n,[],hn,h=>rfl
 |0,c::r,hn,h=>by simp at hn
 |n+1,c::r,hn,h=>by
  simp only[List.length_cons] at hn
  rw[dx.eq_2] at h
  split at h
  ·rename_i h32
   subst h32
   have:=qL n r (by omega) h
   simp[gV] at this⊢
   exact this
  ·rename_i h32
   split at h
   ·rename_i hc
    have hdl:=(List.dropWhile_suffix (l:=r) dI).length_le
    have:=qL n (r.dropWhile dI) (by omega) fun x hx=>h x (by simp[hx])
    rw[List.all_cons,y6 r,this]
    simp[gV,hc]
   ·rename_i hc
    have h1:=h [c] (by simp)
    have:=qL n r (by omega) fun x hx=>h x (by simp[hx])
    rw[List.all_cons,this]
    have hn1:bd (mkS [c])=false:=by simp[bd,gM,hc]
    rcases h1 with h1|h1|h1|h1|h1|h1|h1
    ·rw[hn1] at h1;simp at h1
    all_goals (simp at h1;subst h1;rfl)
theorem qW:∀(n:Nat) (l:List UInt8),l.length≤n→(dx l).length≤l.length∧∀x,x∈dx l→x.length≤l.length
 |n,[],hn=>by simp[dx]
 |0,c::r,hn=>by simp at hn
 |n+1,c::r,hn=>by
  simp only[List.length_cons] at hn⊢
  rw[dx.eq_2]
  split
  ·obtain ⟨h1,h2⟩:=qW n r (by omega)
   exact ⟨by omega,fun x hx=>by have:=h2 x hx;omega⟩
  ·split
   ·have hdl:=(List.dropWhile_suffix (l:=r) dI).length_le
    have htl:=qN dI r
    obtain ⟨h1,h2⟩:=qW n (r.dropWhile dI) (by omega)
    refine ⟨by simp;omega,fun x hx=>?_⟩
    rcases List.mem_cons.1 hx with rfl|hx
    ·simp;omega
    ·have:=h2 x hx;omega
   ·obtain ⟨h1,h2⟩:=qW n r (by omega)
    refine ⟨by simp;omega,fun x hx=>?_⟩
    rcases List.mem_cons.1 hx with rfl|hx
    ·simp
    ·have:=h2 x hx;omega
end Go.Ev
namespace Go.Ev
theorem tl {n:Nat} (h:n<big):w64 ((n:Int)+1)=((n+1:Nat):Int):=by
 simp only[big] at h;rw[aQ (by omega) (by omega)];rfl
theorem wj:∀(k:Nat) (t:Tr),t.depth<k→t.depth<big→aw.g k 0 [t.enc]=some [.i (t.depth:Nat)]
 |0,t,h,_=>by omega
 |k+1,t,h,hb=>by
  have hs:∀x,aw.g (k+1) 0 x=aw.step (aw.g k 0) x:=fun _=>rfl
  rw[hs]
  have w0:w64 1=1:=aQ (by omega) (by omega)
  have w2:w64 2=2:=aQ (by omega) (by omega)
  cases t with
  |lf kd n v=>
   have h0:apn 4 (aw.d1 (aw.g k 0)) [.i 0,.l [],.i 0,.i 0]=some (.brk 0 [.i 0]):=by simp[aw.d1]
   simp only[aw.step,aw.d3,apL,jC,jD,Tr.enc,C.uU,jR,C.P_p,C.L_l,List.length_nil,Int.ofNat_zero,Int.natCast_zero]
   rw[aU h0]
   simp[aw.d2,Tr.depth]
  |un t=>
   simp only[Tr.depth] at h hb
   have ih:=wj k t (by omega) (by omega)
   have h0:apn 4 (aw.d1 (aw.g k 0)) [.i 0,.l [[t.enc]],.i 1,.i 0]=some (.again [.i (t.depth+1:Nat),.l [[t.enc]],.i 1,.i 1]):=by
    have hgt:(((t.depth+1:Nat):Int))>0:=by omega
    simp[aw.d1,ih,ad,tl (show t.depth<big by omega),w0]
   have h1:apn 4 (aw.d1 (aw.g k 0)) [.i (t.depth+1:Nat),.l [[t.enc]],.i 1,.i 1]=some (.brk 0 [.i (t.depth+1:Nat)]):=by simp[aw.d1]
   simp only[aw.step,aw.d3,apL,jC,jD,Tr.enc,C.uU,jR,C.P_p,C.L_l,List.length_cons,List.length_nil]
   erw[aI h0,aU h1]
   simp[aw.d2,Tr.depth]
  |bn kd a b=>
   simp only[Tr.depth] at h hb
   have iha:=wj k a (by omega) (by omega)
   have ihb:=wj k b (by omega) (by omega)
   have h0:apn 4 (aw.d1 (aw.g k 0)) [.i 0,.l [[a.enc],[b.enc]],.i 2,.i 0]=some (.again [.i (a.depth+1:Nat),.l [[a.enc],[b.enc]],.i 2,.i 1]):=by
    simp[aw.d1,iha,ad,tl (show a.depth<big by omega),w0]
   have h1:apn 4 (aw.d1 (aw.g k 0)) [.i (a.depth+1:Nat),.l [[a.enc],[b.enc]],.i 2,.i 1]=some (.again [.i (max a.depth b.depth+1:Nat),.l [[a.enc],[b.enc]],.i 2,.i 2]):=by
    have e:(1:Int)<2:=by omega
    simp only[apL,jC,jD,aw.d1,C.I_i,C.L_l,e,decide_true,jR,List.length_cons,List.length_nil,Int.toNat_one,ihb,ad,jI,tl (show b.depth<big by omega)]
    have w2':w64 (1+1)=2:=w2
    rw[w2']
    simp
    split<;>omega
   have h2:apn 4 (aw.d1 (aw.g k 0)) [.i (max a.depth b.depth+1:Nat),.l [[a.enc],[b.enc]],.i 2,.i 2]=some (.brk 0 [.i (max a.depth b.depth+1:Nat)]):=by simp[aw.d1]
   simp only[aw.step,aw.d3,apL,jC,jD,Tr.enc,C.uU,jR,C.P_p,C.L_l,List.length_cons,List.length_nil]
   erw[aI h0,aI h1,aU h2]
   simp[aw.d2,Tr.depth]
def Tr.kids:Tr→Nat→List (List C)
 |.lf _ _ _,o=>[[.l []]]
 |.un t,o=>t.kids o++[[.l [[.i (o+t.sz-1:Nat)]]]]
 |.bn _ a b,o=>a.kids o++b.kids (o+a.sz)++[[.l [[.i (o+a.sz-1:Nat)],[.i (o+a.sz+b.sz-1:Nat)]]]]
theorem Tr.cO:∀(t:Tr) (o:Nat),(t.kids o).length=t.sz
 |.lf _ _ _,o=>rfl
 |.un t,o=>by simp[Tr.kids,Tr.sz,t.cO]
 |.bn _ a b,o=>by simp[Tr.kids,Tr.sz,a.cO,b.cO];omega
theorem wW {N:List (List C)} {o m:Nat} {kd:Nat} {n v:Tok} {out stk:List (List C)} (hN:N.length≤1048576) (ho:o<N.length) (hn:N[o]=node kd n v m) (h1:m≤stk.length) (h2:stk.length≤o) (h3:out.length≤o):
  apn 4 dV.d1 [.i o,.l N,.l out,.l stk]=some (.again [.i (o+1:Nat),.l N,.l (out++[[.l (stk.drop (stk.length-m))]]),.l (stk.take (stk.length-m)++[[.i (o:Nat)]])]):=by
 have hg:N.getD o []=node kd n v m:=by rw[List.getD_eq_getElem?_getD,List.getElem?_eq_getElem ho,hn];rfl
 have hw:w64 ((stk.length:Int)-(m:Int))=((stk.length-m:Nat):Int):=by rw[aQ (by omega) (by omega)];omega
 have hw1:=w1 ho (show N.length<big by simp only[big];omega)
 have e1:¬((m:Int)<0):=by omega
 have e2:¬((m:Int)>(stk.length:Int)):=by omega
 have e3:((stk.length-m:Nat):Int)≤(stk.length:Int):=by omega
 have e4:(stk.drop (stk.length-m)).length≤4294967296:=by rw[List.length_drop];omega
 have e5:out.length+1≤4294967296:=by omega
 have e6:(stk.take (stk.length-m)).length+1≤4294967296:=by rw[List.length_take];omega
 simp only[apL,jC,jD,dV.d1,C.I_i,C.L_l,jY,hg,node,hw,hw1,List.take_length,List.drop_zero,af,rows,jB,List.length_nil,List.length_cons,Nat.zero_add,e1,e2,e3,e4,e5,e6,decide_true,decide_false,jR,jS,ja,jX,Int.le_refl]
 simp[ho]
theorem iX {α:Type} {N l r:List α} {o:Nat} {x:α} (h:N.drop o=l++x::r):∃h:o+l.length<N.length,N[o+l.length]=x:=by
 have h2:N.drop (o+l.length)=x::r:=by rw[←List.drop_drop,h];simp
 obtain ⟨h3,h4,_⟩:=drop_cons h2
 exact ⟨h3,h4⟩
theorem Ad {N:List (List C)} (hN:N.length≤1048576):∀(t:Tr) (o:Nat) (out stk r:List (List C)),N.drop o=t.flat++r→stk.length≤o→out.length≤o→
  lim (apn 4 dV.d1) [.i o,.l N,.l out,.l stk]=lim (apn 4 dV.d1) [.i (o+t.sz:Nat),.l N,.l (out++t.kids o),.l (stk++[[.i (o+t.sz-1:Nat)]])]
 |.lf kd n v,o,out,stk,r,h,hs,ho=>by
  obtain ⟨h1,h2,_⟩:=drop_cons (show N.drop o=node kd n v 0::r from h)
  rw[aI (wW hN h1 h2 (Nat.zero_le _) hs ho)]
  simp[Tr.sz,Tr.kids]
 |.un t,o,out,stk,r,h,hs,ho=>by
  have h':N.drop o=t.flat++(node 3 [] [] 1::r):=by rw[h];simp[Tr.flat]
  rw[Ad hN t o out stk _ h' hs ho]
  obtain ⟨h1,h2⟩:=iX h'
  rw[t.ck] at h1
  have h2:N[o+t.sz]=node 3 [] [] 1:=by simp only[t.ck] at h2;exact h2
  rw[aI (wW hN h1 h2 (by simp) (by have:=t.rH;simp;omega) (by simp[t.cO];omega))]
  have e1:(stk++[[C.i (o+t.sz-1:Nat)]]).length-1=stk.length:=by simp
  rw[e1,List.drop_left',List.take_left']<;>simp[Tr.sz,Tr.kids]
  rfl
 |.bn kd a b,o,out,stk,r,h,hs,ho=>by
  have h':N.drop o=a.flat++(b.flat++(node kd [] [] 2::r)):=by rw[h];simp[Tr.flat]
  have h'':N.drop (o+a.sz)=b.flat++(node kd [] [] 2::r):=by rw[←List.drop_drop,h',←a.ck];simp
  have ha:=a.rH
  have hb:=b.rH
  rw[Ad hN a o out stk _ h' hs ho,Ad hN b (o+a.sz) _ _ _ h'' (by simp;omega) (by simp[a.cO];omega)]
  obtain ⟨h1,h2⟩:=iX h''
  rw[b.ck] at h1
  have h2:N[o+a.sz+b.sz]=node kd [] [] 2:=by simp only[b.ck] at h2;exact h2
  rw[aI (wW hN h1 h2 (by simp) (by simp;omega) (by simp[a.cO,b.cO];omega))]
  have e1:(stk++[[C.i (o+a.sz-1:Nat)]]++[[C.i (o+a.sz+b.sz-1:Nat)]]).length-2=stk.length:=by simp
  have e2:stk++[[C.i (o+a.sz-1:Nat)]]++[[C.i (o+a.sz+b.sz-1:Nat)]]=stk++[[C.i (o+a.sz-1:Nat)],[C.i (o+a.sz+b.sz-1:Nat)]]:=by simp
  rw[e1,e2,List.drop_left',List.take_left']
  ·have e3:o+(Tr.bn kd a b).sz=o+a.sz+b.sz+1:=by simp only[Tr.sz];omega
   rw[e3]
   simp[Tr.kids]
  ·rfl
  ·rfl
theorem jj (t:Tr) (ht:t.sz≤1048576):dV [.l t.flat]=some [.b true,.l (t.kids 0)]:=by
 have hN:t.flat.length≤1048576:=by rw[t.ck];exact ht
 have h:=Ad hN t 0 [] [] [] (by simp) (by simp) (by simp)
 have he:apn 4 dV.d1 [.i (0+t.sz:Nat),.l t.flat,.l ([]++t.kids 0),.l ([]++[[.i (0+t.sz-1:Nat)]])]=some (.brk 0 [.l (t.kids 0),.l [[.i (t.sz-1:Nat)]]]):=by
  simp[dV.d1,t.ck]
 rw[aU he] at h
 simp only[dV,dV.d3,apL,jC,af]
 erw[h]
 simp[dV.d2]
end Go.Ev
namespace Go.Ev
section
variable {K:List (List C)} (hK:K.length≤1048576)
include hK
theorem uc (G:List C→Option (List C)) {ix:Nat} (hi:ix<K.length) {l:List (List C)} (hr:K[ix]=[.l l]) {d c e:Nat} (hd:d<l.length) (hl:l.length≤2) {kid:Nat} (hk:l[d]=[.i (kid:Nat)])
  (hG:G [.l K,.i (kid:Nat)]=some [.i (e:Nat)]) (he:e<big):
  apn 4 (bC.d1 G) [.l K,.i (ix:Nat),.i (c:Nat),.i (d:Nat)]=some (.again [.l K,.i (ix:Nat),.i (max c (e+1):Nat),.i (d+1:Nat)]):=by
 have hg:K.getD ix []=[.l l]:=by rw[List.getD_eq_getElem?_getD,List.getElem?_eq_getElem hi,hr];rfl
 have hgd:l.getD d []=[.i (kid:Nat)]:=by rw[List.getD_eq_getElem?_getD,List.getElem?_eq_getElem hd,hk];rfl
 have hw:=tl he
 have hwd:w64 ((d:Int)+1)=((d+1:Nat):Int):=tl (by simp only[big];omega)
 simp only[apL,jC,jD,bC.d1,C.I_i,C.L_l,jY,hg,hgd,hG,ad,jI,hw,hwd,jX,decide_true,jR]
 have e1:((ix:Int)<(K.length:Int)):=by omega
 have e2:((d:Int)<(l.length:Int)):=by omega
 simp only[e1,e2,decide_true,jR]
 by_cases h:((e+1:Nat):Int)>(c:Int)
 ·have:max c (e+1)=e+1:=by omega
  simp only[h,decide_true,jR,this]
 ·have:max c (e+1)=c:=by omega
  simp only[h,decide_false,jS,this]
theorem xJ (G:List C→Option (List C)) {ix:Nat} (hi:ix<K.length) {l:List (List C)} (hr:K[ix]=[.l l]) {c:Nat}:
  apn 4 (bC.d1 G) [.l K,.i (ix:Nat),.i (c:Nat),.i (l.length:Nat)]=some (.brk 0 [.i (c:Nat)]):=by
 have hg:K.getD ix []=[.l l]:=by rw[List.getD_eq_getElem?_getD,List.getElem?_eq_getElem hi,hr];rfl
 simp only[apL,jC,jD,bC.d1,C.I_i,C.L_l,jY,hg]
 simp[hi]
theorem xU:∀(k:Nat) (t:Tr) (o:Nat) (r:List (List C)),t.depth<k→t.depth<big→K.drop o=t.kids o++r→bC.g k 0 [.l K,.i (o+t.sz-1:Nat)]=some [.i (t.depth:Nat)]
 |0,t,o,r,h,_,_=>by omega
 |k+1,t,o,r,h,hb,hd=>by
  have hs:∀x,bC.g (k+1) 0 x=bC.step (bC.g k 0) x:=fun _=>rfl
  rw[hs]
  simp only[bC.step,bC.d3,apL,jC,jD]
  cases t with
  |lf kd n v=>
   obtain ⟨h1,h2,_⟩:=drop_cons (show K.drop o=[.l []]::r from hd)
   have:=aU (xJ hK (bC.g k 0) h1 h2 (c:=0))
   simp only[List.length_nil,Int.ofNat_zero,Int.natCast_zero] at this
   have e:o+(Tr.lf kd n v).sz-1=o:=by simp[Tr.sz]
   rw[e,this]
   simp[bC.d2,Tr.depth]
  |un t=>
   simp only[Tr.depth] at h hb
   have h':K.drop o=t.kids o++([.l [[.i (o+t.sz-1:Nat)]]]::r):=by rw[hd];simp[Tr.kids]
   have ih:=xU k t o _ (by omega) (by omega) h'
   obtain ⟨h1,h2⟩:=iX h'
   rw[t.cO] at h1
   have h2:K[o+t.sz]=[.l [[.i (o+t.sz-1:Nat)]]]:=by simp only[t.cO] at h2;exact h2
   have e:o+(Tr.un t).sz-1=o+t.sz:=by simp[Tr.sz]
   have s1:=uc hK (bC.g k 0) h1 h2 (d:=0) (c:=0) (by simp) (by simp) (kid:=o+t.sz-1) rfl ih (by omega)
   have s2:=xJ hK (bC.g k 0) h1 h2 (c:=max 0 (t.depth+1))
   simp only[Int.natCast_zero,Nat.zero_max,List.length_cons,List.length_nil,Nat.zero_add] at s1 s2
   rw[e,aI s1,aU s2]
   simp[bC.d2,Tr.depth]
  |bn kd a b=>
   simp only[Tr.depth] at h hb
   have h':K.drop o=a.kids o++(b.kids (o+a.sz)++([.l [[.i (o+a.sz-1:Nat)],[.i (o+a.sz+b.sz-1:Nat)]]]::r)):=by rw[hd];simp[Tr.kids]
   have h'':K.drop (o+a.sz)=b.kids (o+a.sz)++([.l [[.i (o+a.sz-1:Nat)],[.i (o+a.sz+b.sz-1:Nat)]]]::r):=by
    rw[←List.drop_drop,h',←a.cO o];simp
   have iha:=xU k a o _ (by omega) (by omega) h'
   have ihb:=xU k b (o+a.sz) _ (by omega) (by omega) h''
   obtain ⟨h1,h2⟩:=iX h''
   rw[b.cO] at h1
   have h2:K[o+a.sz+b.sz]=[.l [[.i (o+a.sz-1:Nat)],[.i (o+a.sz+b.sz-1:Nat)]]]:=by simp only[b.cO] at h2;exact h2
   have e:o+(Tr.bn kd a b).sz-1=o+a.sz+b.sz:=by simp only[Tr.sz];omega
   have s1:=uc hK (bC.g k 0) h1 h2 (d:=0) (c:=0) (by simp) (by simp) (kid:=o+a.sz-1) rfl iha (by omega)
   have s2:=uc hK (bC.g k 0) h1 h2 (d:=1) (c:=max 0 (a.depth+1)) (by simp) (by simp) (kid:=o+a.sz+b.sz-1) rfl ihb (by omega)
   have s3:=xJ hK (bC.g k 0) h1 h2 (c:=max (max 0 (a.depth+1)) (b.depth+1))
   simp only[Int.natCast_zero,List.length_cons,List.length_nil,Nat.zero_add,Nat.reduceAdd] at s1 s2 s3
   rw[e,aI s1,aI s2,aU s3]
   have e2:max (max 0 (a.depth+1)) (b.depth+1)=max a.depth b.depth+1:=by omega
   rw[e2]
   simp[bC.d2,Tr.depth]
end
inductive OkN:List C→Prop
 |n1 (n:Tok) (h:bd (mkS n)=true):OkN (node 1 n [] 0)
 |n2 (n v:Tok) (h:bd (mkS n)=true) (h2:bd (mkS v)=true):OkN (node 2 n v 0)
 |n3:OkN (node 3 [] [] 1)
 |n4:OkN (node 4 [] [] 2)
 |n5:OkN (node 5 [] [] 2)
theorem Tr.okN:∀(t:Tr),t.Wf→∀r,r∈t.flat→OkN r
 |.lf k n v,h,r,hr=>by
  simp only[Tr.flat,List.mem_singleton] at hr
  subst hr
  rcases h with ⟨h1,⟨rfl,rfl⟩|⟨rfl,h2⟩⟩
  ·exact .n1 n h1
  ·exact .n2 n v h1 h2
 |.un t,h,r,hr=>by
  simp only[Tr.flat,List.mem_append,List.mem_singleton] at hr
  rcases hr with hr|rfl
  ·exact t.okN h r hr
  ·exact .n3
 |.bn k a b,h,r,hr=>by
  simp only[Tr.flat,List.mem_append,List.mem_singleton] at hr
  rcases hr with (hr|hr)|rfl
  ·exact a.okN h.2.1 r hr
  ·exact b.okN h.2.2 r hr
  ·rcases h.1 with rfl|rfl
   ·exact .n4
   ·exact .n5
theorem pI {s:Str} (h:bd s=true):s.size≤1048576:=by
 simp only[bd,within,Bool.and_eq_true,decide_eq_true_eq] at h
 omega
theorem emp:(mkS []).toList=[]:=eL _
theorem FN {N:List (List C)} (hN:N.length≤1048576) {i:Nat} (hi:i<N.length) (ho:OkN N[i]):
  apn 2 aO.d4 [.i i,.l N]=some (.again [.i (i+1:Nat),.l N]):=by
 have hw1:=w1 hi (show N.length<big by simp only[big];omega)
 have hg:N.getD i []=N[i]:=by rw[List.getD_eq_getElem?_getD,List.getElem?_eq_getElem hi];rfl
 have e0:((i:Int)<(N.length:Int)):=by omega
 have key:∀r,OkN r→N.getD i []=r→apn 2 aO.d4 [.i i,.l N]=some (.again [.i (i+1:Nat),.l N]):=by
  intro r hr hgr
  have z1:within 1 0 5=true:=rfl
  have z2:within 2 0 5=true:=rfl
  have z3:within 3 0 5=true:=rfl
  have z4:within 4 0 5=true:=rfl
  have z5:within 5 0 5=true:=rfl
  have t2:Int.toNat 2=2:=rfl
  have t3:Int.toNat 3=3:=rfl
  have t4:Int.toNat 4=4:=rfl
  have t5:Int.toNat 5=5:=rfl
  cases hr with
  |n1 n h=>
   simp only[apL,jC,jD,aO.d4,C.I_i,C.L_l,jY,hgr,node]
   simp[aO.d3,aO.d2,aO.d1,fO,z1,ad,cJ _ (pI h),h,emp,eX,hw1,hi]
  |n2 n v h h2=>
   simp only[apL,jC,jD,aO.d4,C.I_i,C.L_l,jY,hgr,node]
   simp[aO.d3,aO.d2,aO.d1,fO,z2,t2,ad,cJ _ (pI h),cJ _ (pI h2),h,h2,emp,eX,hw1,hi]
  |n3=>
   simp only[apL,jC,jD,aO.d4,C.I_i,C.L_l,jY,hgr,node]
   simp[aO.d3,aO.d2,aO.d1,fO,z3,t3,ad,emp,eX,hw1,hi]
  |n4=>
   simp only[apL,jC,jD,aO.d4,C.I_i,C.L_l,jY,hgr,node]
   simp[aO.d3,aO.d2,aO.d1,fO,z4,t4,ad,emp,eX,hw1,hi]
  |n5=>
   simp only[apL,jC,jD,aO.d4,C.I_i,C.L_l,jY,hgr,node]
   simp[aO.d3,aO.d2,aO.d1,fO,z5,t5,ad,emp,eX,hw1,hi]
 exact key _ ho hg
theorem vg (t:Tr) (ht:t.sz≤400) (hw:t.Wf):aO [.l t.flat]=some [.b true]:=by
 have hN:t.flat.length≤1048576:=by rw[t.ck];omega
 have hloop:∀(k i:Nat),t.flat.length-i≤k→i≤t.flat.length→lim (apn 2 aO.d4) [.i i,.l t.flat]=some (.brk 0 []):=by
  intro k
  induction k with
  |zero=>
   intro i hk hi
   have:i=t.flat.length:=by omega
   subst this
   exact aU (by simp[aO.d4])
  |succ k ih=>
   intro i hk hi
   rcases Nat.lt_or_ge i t.flat.length with h|h
   ·rw[aI (FN hN h (t.okN hw _ (List.getElem_mem h)))]
    exact ih (i+1) (by omega) (by omega)
   ·have:i=t.flat.length:=by omega
    subst this
    exact aU (by simp[aO.d4])
 have h0:=hloop _ 0 (Nat.le_refl _) (Nat.zero_le _)
 simp only[Int.natCast_zero] at h0
 have e:¬((t.flat.length:Int)>400):=by rw[t.ck];omega
 simp only[aO,aO.d6,apL,jC,C.L_l,e,decide_false,jS,jj t (by omega),call2,jI,C.B_b,jZ,h0]
 simp[aO.d5]
theorem Af (t:Tr) (ht:t.sz≤400) (hw:t.Wf):fL [.l t.flat]=some [.b (decide (t.depth≤20))]:=by
 have hd:=t.l8
 have hp:=t.rH
 have hF:=lu
 have hw1:w64 ((t.flat.length:Int)-1)=((0+t.sz-1:Nat):Int):=by rw[t.ck,aQ (by omega) (by omega)];omega
 have hn:bC [.l (t.kids 0),.i (0+t.sz-1:Nat)]=some [.i (t.depth:Nat)]:=
  xU (K:=t.kids 0) (by rw[t.cO];omega) iD t 0 [] (by omega) (by simp only[big];omega) (by simp)
 simp only[fL,fL.d1,apL,jC,jD,vg t ht hw,ad,call2,jI,C.B_b,jZ,jS,jj t (by omega),C.L_l,hw1,hn,C.I_i,jV]
 have:decide ((t.depth:Int)≤20)=decide (t.depth≤20):=by
  rw[decide_eq_decide];omega
 rw[this]
end Go.Ev
namespace Go.Ev
theorem lex_nil:∀l:List UInt8,(dx l=[])↔l.all sp=true
 |[]=>by simp[dx]
 |c::r=>by
  rw[dx.eq_2]
  by_cases h:c=32
  ·subst h
   rw[if_pos rfl,List.all_cons,lex_nil r]
   simp[sp]
  ·rw[if_neg h]
   have:sp c=false:=by simp[sp,h]
   split<;>simp[this]
theorem Ek (s0:Str):∀(n:Nat) (l:List UInt8),l.length≤n→n≤1048576→∃q,lim (apn 2 aP.d1) [.s (mkS l),.i 32]=some (.brk 0 [.s (mkS q)])∧q.length≤l.length∧q.all sp=l.all sp
 |n,l,hn,hb=>by
  rcases List.eq_nil_or_concat l with rfl|⟨p,c,rfl⟩
  ·exact ⟨[],aU (by simp[aP.d1,nS]),Nat.le_refl _,rfl⟩
  ·simp only[List.concat_eq_append] at hn⊢
   obtain ⟨n,rfl⟩:∃n',n=n'+1:=⟨n-1,by simp at hn;omega⟩
   have hsz:(mkS (p++[c])).size=p.length+1:=by rw[nS];simp
   have hw:w64 (((p.length+1:Nat):Int)-1)=(p.length:Nat):=by simp at hn;rw[aQ (by omega) (by omega)];omega
   have hgd:(mkS (p++[c])).data.getD p.length 0=c:=by
    rw[ej (by rw[gM];simp)]
    simp[gM]
   have hext:(mkS (p++[c])).extract 0 p.length=mkS p:=by
    rw[lr,gM];simp
   have e1:((p.length+1:Nat):Int)>0:=by omega
   have e2:(p.length:Int)<((p.length+1:Nat):Int):=by omega
   have e3:(p.length:Int)≤((p.length+1:Nat):Int):=by omega
   cases hc:sp c with
   |true=>
    have h:apn 2 aP.d1 [.s (mkS (p++[c])),.i 32]=some (.again [.s (mkS p),.i 32]):=by
     simp only[sp] at hc
     simp only[apL,jC,jD,aP.d1,C.S_s,C.I_i,hsz,hw,jY,hgd,bn c 32 32 rfl,hc,hext,e1,e2,e3,decide_true,jR,jX]
    rw[aI h]
    obtain ⟨q,h1,h2,h3⟩:=Ek s0 n p (by simp at hn;omega) (by omega)
    exact ⟨q,h1,by simp;omega,by rw[h3];simp[hc]⟩
   |false=>
    refine ⟨p++[c],aU ?_,Nat.le_refl _,rfl⟩
    simp only[sp] at hc
    simp only[apL,jC,jD,aP.d1,C.S_s,C.I_i,hsz,hw,jY,hgd,bn c 32 32 rfl,hc,e1,e2,decide_true,jR,jS,jX]
theorem Eo:∀(l:List UInt8),l.length≤1048576→lim (apn 2 aS.d1) [.s (mkS l),.i 32]=some (.brk 0 [.s (mkS (l.dropWhile sp))])
 |[],hn=>aU (by simp[aS.d1,nS])
 |c::r,hn=>by
  have hsz:(mkS (c::r)).size=r.length+1:=rfl
  have hgd:(mkS (c::r)).data.getD 0 0=c:=by
   rw[ej (by rw[gM];simp)]
   simp[gM]
  have hext:(mkS (c::r)).extract 1 (r.length+1)=mkS r:=by
   rw[lr,gM];simp
  have e1:((r.length+1:Nat):Int)>0:=by omega
  have e2:(1:Int)≤((r.length+1:Nat):Int):=by omega
  rw[List.dropWhile_cons]
  cases hc:sp c with
  |true=>
   have h:apn 2 aS.d1 [.s (mkS (c::r)),.i 32]=some (.again [.s (mkS r),.i 32]):=by
    simp only[sp] at hc
    have e1':(0:Int)<((r.length+1:Nat):Int):=by omega
    simp only[apL,jC,jD,aS.d1,C.S_s,C.I_i,hsz,jY,hgd,bn c 32 32 rfl,hc,hext,e1,e1',e2,decide_true,jR,Int.le_refl]
   rw[aI h]
   simp only[List.length_cons] at hn
   simpa using Eo r (by omega)
  |false=>
   refine aU ?_
   simp only[sp] at hc
   have e1':(0:Int)<((r.length+1:Nat):Int):=by omega
   simp only[apL,jC,jD,aS.d1,C.S_s,C.I_i,hsz,jY,hgd,bn c 32 32 rfl,hc,e1,e1',decide_true,jR,jS]
   rfl
theorem rG (l:List UInt8):l.dropWhile sp=[]↔l.all sp=true:=by
 induction l with
 |nil=>simp
 |cons c r ih=>
  rw[List.dropWhile_cons,List.all_cons]
  cases hc:sp c<;>simp[ih]
theorem JC (s:Str) (hl:s.size≤1048576):∃z,fc [.s s,.s (bs #[32])]=some [.s z]∧(z.toList==(bs #[]).toList)=s.data.toList.all sp:=by
 have hb32:bs #[32]=mkS [32]:=rfl
 simp only[fc,fc.d2,apL,jC,jD,C.S_s]
 cases hq:(s.toList==(bs #[]).toList) with
 |true=>
  have:s=mkS []:=(cF s (bs #[])).1 hq
  subst this
  refine ⟨mkS [],?_,?_⟩
  ·simp
  ·rw[hq];rfl
 |false=>
  have h32:((bs #[32]).toList==(bs #[]).toList)=false:=by
   rw[hb32,eL,eX,eL];rfl
  have hsz:(bs #[32]).size=1:=rfl
  have hgd:(bs #[32]).data.getD 0 0=32:=rfl
  obtain ⟨q,h1,h2,h3⟩:=Ek s s.data.toList.length s.data.toList (Nat.le_refl _) (by rw[←dr];exact hl)
  rw[Ji] at h1
  have h4:=Eo q (by rw[←dr] at h2;omega)
  refine ⟨mkS (q.dropWhile sp),?_,?_⟩
  ·have e1:(((32:UInt8).toNat:Nat):Int)=32:=rfl
   have e2:((1:Nat):Int)=1:=rfl
   simp only[ja,jR,h32,jS,hsz,hgd,e1,e2,aP,aP.d3,aS,aS.d3,apL,jC,jD,h1,au,aP.d2,jV,ad,jI]
   simp[h4,aS.d2]
  ·rw[←h3,eL,eX,eL,gM,gM]
   cases hall:q.all sp with
   |true=>rw[(rG q).2 hall];rfl
   |false=>
    cases hd:q.dropWhile sp with
    |nil=>rw[(rG q).1 hd] at hall;simp at hall
    |cons c r=>rfl
inductive PR where
 |err (n:Nat)
 |all
 |tree (t:Tr)
def pp (s:Str):PR:=
 if 200<s.size then .err 1
 else if s.data.toList.all sp=true then .all
 else match prs 1000 0 (dx s.data.toList) with
  |some (t,[])=>if t.depth≤20 then .tree t else .err 3
  |_=>.err 2
def PR.nodes:PR→List (List C)
 |.err _=>[]
 |.all=>[node 0 [] [] 0]
 |.tree t=>t.flat
def PR.code:PR→Nat
 |.err n=>n
 |_=>0
def PR.ptr:PR→C
 |.err _=>.nil
 |.all=>.p [.i 0,.s (mkS []),.s (mkS []),.l []]
 |.tree t=>t.enc
theorem Hy {s:Str} {t:Tr} (h:pp s=.tree t):t.Wf∧t.sz≤200∧t.depth≤20:=by
 unfold pp at h
 split at h
 ·simp at h
 ·rename_i hs
  split at h
  ·simp at h
  ·split at h
   ·rename_i u hq
    split at h
    ·rename_i hd
     simp only[PR.tree.injEq] at h
     subst h
     obtain ⟨p,h1,h2,h3,h4⟩:=na _ _ _ _ _ hq
     have:=(qW _ s.data.toList (Nat.le_refl _)).1
     rw[h1] at this
     rw[←dr] at this
     simp at this
     exact ⟨h4,by omega,hd⟩
    ·simp at h
   ·simp at h
theorem pr (s:Str) (hl:s.size≤1048576):fP [.s s]=some [.l (pp s).nodes,.i ((pp s).code:Nat)]:=by
 have hF:=lu
 simp only[fP,fP.d1,apL,jC,C.S_s]
 by_cases hs:(s.size:Int)>200
 ·have h200:200<s.size:=by omega
  simp[hs,pp,h200,PR.nodes,PR.code]
 have h200:¬200<s.size:=by omega
 simp only[hs,decide_false,jS]
 have hlen:=qW _ s.data.toList (Nat.le_refl _)
 rw[←dr] at hlen
 rcases yy s hl with ⟨hg,ht⟩|⟨hg,o,ht⟩
 ·simp only[ht,call2,jI,jC,jD,C.B_b,jZ,jS,C.L_l,jW]
  cases hall:s.data.toList.all sp with
  |true=>
   have:dx s.data.toList=[]:=(lex_nil _).2 hall
   rw[this]
   simp[pp,h200,hall,PR.nodes,PR.code,node,eX]
  |false=>
   have hne:dx s.data.toList≠[]:=fun h=>by rw[(lex_nil _).1 h] at hall;simp at hall
   have hlp:0<(dx s.data.toList).length:=List.length_pos_iff.2 hne
   have hz:(((dx s.data.toList).length:Int)==0)=false:=by rw[beq_eq_false_iff_ne];omega
   obtain ⟨nodes,a',bad,hgo,q1,q2,q3,q4⟩:=IZ (T:=dx s.data.toList) (by omega) (fun t ht=>by have:=hlen.2 t ht;omega) 1000 0 iD 0 (by omega) (by omega) (by omega) (by omega)
   have hgo:ak [.l ((dx s.data.toList).map tk),.i 0,.b false]=_:=hgo
   simp only[hz,jS,hgo,call4,jI,jC,jD,C.B_b,C.I_i]
   simp only[List.drop_zero] at q4
   simp only[pp,if_neg h200,hall,Bool.false_eq_true,if_false]
   cases hp:prs 1000 0 (dx s.data.toList) with
   |none=>
    rw[hp] at q4
    simp only at q4
    subst q4
    simp[PR.nodes,PR.code]
   |some z=>
    obtain ⟨t,r⟩:=z
    rw[hp] at q4
    obtain ⟨rfl,rfl,q5,q6⟩:=q4
    simp only[ja,jR]
    have hrl:r.length=(dx s.data.toList).length-a':=by rw[←q5];simp
    cases r with
    |cons x r=>
     simp only[List.length_cons] at hrl
     have:(a':Int)<((dx s.data.toList).length:Int):=by omega
     simp[this,PR.nodes,PR.code]
    |nil=>
     simp only[List.length_nil] at hrl
     have:¬(a':Int)<((dx s.data.toList).length:Int):=by omega
     obtain ⟨p,h1,h2,h3,h4⟩:=na _ _ _ _ _ hp
     have h5:t.sz≤400:=by
      have:=hlen.1
      rw[h1] at this
      simp at this
      omega
     simp only[this,decide_false,jS,Af t h5 h4,ad,jI,jC,C.B_b]
     by_cases hd:t.depth≤20<;>simp[hd,PR.nodes,PR.code]
 ·simp only[ht,call2,jI,jC,jD,C.B_b,ja,jR,jV,af]
  have hcode:pp s=.err 2:=by
   unfold pp
   rw[if_neg h200,if_neg]
   ·split
    ·rename_i t hq
     obtain ⟨p,h1,h2,h3,h4⟩:=na _ _ _ _ _ hq
     have:=qL _ s.data.toList (Nat.le_refl _) (fun x hx=>h2 x (by rw[h1] at hx;simpa using hx))
     rw[this] at hg;simp at hg
    ·rfl
   ·intro hall
    have:s.data.toList.all gV=true:=by
     rw[List.all_eq_true] at hall⊢
     intro x hx
     have:=hall x hx
     simp only[sp] at this
     simp[gV,this]
    rw[this] at hg;simp at hg
  rw[hcode]
  rfl
theorem pK (s:Str) (hl:s.size≤1048576):jK [.s s]=some [(pp s).ptr,.i ((pp s).code:Nat)]:=by
 have hF:=lu
 simp only[jK,jK.d1,apL,jC,C.S_s]
 by_cases hs:(s.size:Int)>200
 ·have h200:200<s.size:=by omega
  simp[hs,pp,h200,PR.ptr,PR.code]
 have h200:¬200<s.size:=by omega
 have hlen:=qW _ s.data.toList (Nat.le_refl _)
 rw[←dr] at hlen
 obtain ⟨z,hz,hz2⟩:=JC s hl
 simp only[hs,decide_false,jS,hz,ad,jI,jC,C.S_s,hz2]
 cases hall:s.data.toList.all sp with
 |true=>simp[pp,h200,hall,PR.ptr,PR.code,eX]
 |false=>
  obtain ⟨c,i',ok,hgo,q1,q2⟩:=I7 (s:=s) hl 1000 0 iD 0 (by omega) (by omega) (by simp only[List.drop_zero];omega) (by omega)
  have hgo:av [.s s,.i 0,.b true]=_:=hgo
  simp only[List.drop_zero] at q2
  simp only[jS,hgo,call4,jI,jC,jD,GC hl i' ok q1,call3,C.B_b,C.I_i]
  simp only[pp,if_neg h200,hall,Bool.false_eq_true,if_false]
  cases hp:prs 1000 0 (dx s.data.toList) with
  |none=>
   rw[hp] at q2
   simp only at q2
   subst q2
   simp[PR.ptr,PR.code]
  |some y=>
   obtain ⟨t,r⟩:=y
   rw[hp] at q2
   obtain ⟨rfl,rfl,q3,q4⟩:=q2
   have hgd:=AS (s:=s) i'
   have hlt:=sB (s.data.toList.drop i')
   rw[q3,←hgd] at hlt
   simp only[jZ,ja,jR,jS]
   cases r with
   |cons x r=>
    have:(gp s i':Int)<(s.size:Int):=by
     rcases Nat.lt_or_ge (gp s i') s.size with h|h
     ·omega
     ·rw[dr] at h
      rw[List.drop_eq_nil_of_le h] at hlt
      simp[dx] at hlt
    simp[this,PR.ptr,PR.code]
   |nil=>
    have:¬(gp s i':Int)<(s.size:Int):=by
     intro h
     have h:gp s i'<s.data.toList.length:=by rw[←dr];omega
     have h1:=(lex_nil _).1 hlt
     rw[hgd] at h1
     have h2:((s.data.toList.drop i').dropWhile sp).length=s.data.toList.length-gp s i':=by rw[←hgd];simp
     cases hq:(s.data.toList.drop i').dropWhile sp with
     |nil=>rw[hq] at h2;simp at h2;omega
     |cons x r=>
      have:=wQ hq
      rw[hq] at h1
      simp[sp] at h1
      exact this h1.1
    obtain ⟨p,h1,h2,h3,h4⟩:=na _ _ _ _ _ hp
    have h5:t.sz≤400:=by
     have:=hlen.1
     rw[h1] at this
     simp at this
     omega
    have hdl:=t.l8
    have hdep:aw [t.enc]=some [.i (t.depth:Nat)]:=wj iD t (by omega) (by simp only[big];omega)
    simp only[this,decide_false,jS,hdep,ad,jI,jC,C.I_i]
    by_cases hd:t.depth≤20
    ·have hd':¬(t.depth:Int)>20:=by omega
     simp only[hd',decide_false,jS,jV]
     simp[hd,PR.ptr,PR.code]
    ·have hd':(t.depth:Int)>20:=by omega
     simp only[hd',decide_true,jR,jV]
     simp[hd,PR.ptr,PR.code]
end Go.Ev
namespace Go.Ev
def fu {α:Type} (p:α→Bool):List α→Nat→Int
 |[],_=>-1
 |x::r,n=>bif p x then n else fu p r (n+1)
def aA (p:Nat→Bool):Nat→Nat→Bool
 |_,0=>true
 |i,k+1=>p i&&aA p (i+1) k
theorem bX (p:Nat→Bool):∀(k i:Nat),aA p i k=true↔∀j,i≤j→j<i+k→p j=true
 |0,i=>by simp[aA];omega
 |k+1,i=>by
  simp only[aA,Bool.and_eq_true,bX p k (i+1)]
  constructor
  ·rintro ⟨h1,h2⟩ j hj hk
   rcases Nat.lt_or_eq_of_le hj with h|rfl
   ·exact h2 j h (by omega)
   ·exact h1
  ·intro h
   exact ⟨h i (Nat.le_refl _) (by omega),fun j h1 h2=>h j (by omega) (by omega)⟩
theorem dA {body:List C→R} {S:Nat→List C} {p:Nat→Bool} {n b:Nat} {ys r:List C} (hs:∀i,i<n→body (S i)=bif p i then some (.again (S (i+1))) else some (.ret r)) (he:body (S n)=some (.brk b ys)):
  ∀k i,k+i=n→lim body (S i)=bif aA p i k then some (.brk b ys) else some (.ret r)
 |0,i,h=>by
  have:i=n:=by omega
  subst this
  rw[aU he];rfl
 |k+1,i,h=>by
  have h1:=hs i (by omega)
  simp only[aA]
  cases hp:p i with
  |true=>
   rw[hp] at h1
   rw[aI h1,dA hs he k (i+1) (by omega)]
   simp
  |false=>
   rw[hp] at h1
   rw[lH h1]
   simp
theorem bH {body:List C→R} {S:Nat→List C} {n b:Nat} {ys:List C} (hs:∀i,i<n→body (S i)=some (.again (S (i+1)))) (he:body (S n)=some (.brk b ys)):
  ∀k i,k+i=n→lim body (S i)=some (.brk b ys)
 |0,i,h=>by
  have:i=n:=by omega
  subst this
  exact aU he
 |k+1,i,h=>by rw[aI (hs i (by omega))];exact bH hs he k (i+1) (by omega)
theorem kq {α:Type} {l:List α} {body:List C→R} {S:Nat→List C} {p:α→Bool} {b:Nat} (hs:∀i (h:i<l.length),body (S i)=bif p l[i] then some (.ret [.i (i:Nat)]) else some (.again (S (i+1)))) (he:body (S l.length)=some (.brk b [])):
  ∀k i,k+i=l.length→ah b (lim body (S i)) (fun _=>some (.ret [.i (-1)]))=some (.ret [.i (fu p (l.drop i) i)])
 |0,i,h=>by
  have:i=l.length:=by omega
  subst this
  rw[aU he];simp[fu]
 |k+1,i,h=>by
  have hi:i<l.length:=by omega
  have h1:=hs i hi
  rw[List.drop_eq_getElem_cons hi]
  simp only[fu]
  cases hp:p l[i] with
  |true=>rw[hp] at h1;rw[lH h1];simp
  |false=>rw[hp] at h1;rw[aI h1,kq hs he k (i+1) (by omega)];simp
def bIx (f:Fl) (nm:Str):Int:=fu (fun x:Bt=>sEq x.name nm) f.bts 0
def sIx (f:Fl) (nm:Str):Int:=fu (fun x:Sv=>sEq x.name nm) f.svs 0
def cIx (f:Fl) (nm:Str):Int:=fu (fun x:Cp=>sEq x.name nm) f.cps 0
theorem xZ (f:Fl) (nm:Str) (hl:f.svs.length≤1048576):di (f.e++[.s nm])=some [.i (sIx f nm)]:=by
 have h:=kq (l:=f.svs) (body:=apn 6 di.d1) (S:=fun i=>[.s nm,.i (i:Nat),.b f.pack,.l (f.bts.map Bt.e),.l (f.svs.map Sv.e),.l (f.cps.map Cp.e)]) (p:=fun x=>sEq x.name nm) (b:=0)
  (fun i hi=>by
   simp only[apL,jC,jD,di.d1,C.I_i,C.L_l,C.S_s,jW,jY,getD_map' Sv.e hi,w1 hi (show f.svs.length<big by simp only[big];omega)]
   simp only[Sv.e,jC,C.S_s]
   cases hs:sEq f.svs[i].name nm<;>simp only[sEq] at hs<;>simp[hs,hi])
  (by simp[di.d1]) f.svs.length 0 rfl
 simp only[di,di.d3,Fl.e,jA,jB,apL,jC,jD]
 rw[show (fun xs:List C=>di.d2)=fun _=>some (.ret [.i (-1)]) from rfl]
 erw[h]
 rfl
theorem iw (f:Fl) (nm:Str) (hl:f.bts.length≤1048576):cQ (f.e++[.s nm])=some [.i (bIx f nm)]:=by
 have h:=kq (l:=f.bts) (body:=apn 6 cQ.d1) (S:=fun i=>[.s nm,.i (i:Nat),.b f.pack,.l (f.bts.map Bt.e),.l (f.svs.map Sv.e),.l (f.cps.map Cp.e)]) (p:=fun x=>sEq x.name nm) (b:=0)
  (fun i hi=>by
   simp only[apL,jC,jD,cQ.d1,C.I_i,C.L_l,C.S_s,jW,jY,getD_map' Bt.e hi,w1 hi (show f.bts.length<big by simp only[big];omega)]
   simp only[Bt.e,jC,C.S_s]
   cases hs:sEq f.bts[i].name nm<;>simp only[sEq] at hs<;>simp[hs,hi])
  (by simp[cQ.d1]) f.bts.length 0 rfl
 simp only[cQ,cQ.d3,Fl.e,jA,jB,apL,jC,jD]
 rw[show (fun xs:List C=>cQ.d2)=fun _=>some (.ret [.i (-1)]) from rfl]
 erw[h]
 rfl
theorem fj (f:Fl) (nm:Str) (hl:f.cps.length≤1048576):cY (f.e++[.s nm])=some [.i (cIx f nm)]:=by
 have h:=kq (l:=f.cps) (body:=apn 6 cY.d1) (S:=fun i=>[.s nm,.i (i:Nat),.b f.pack,.l (f.bts.map Bt.e),.l (f.svs.map Sv.e),.l (f.cps.map Cp.e)]) (p:=fun x=>sEq x.name nm) (b:=0)
  (fun i hi=>by
   simp only[apL,jC,jD,cY.d1,C.I_i,C.L_l,C.S_s,jW,jY,getD_map' Cp.e hi,w1 hi (show f.cps.length<big by simp only[big];omega)]
   simp only[Cp.e,jC,C.S_s]
   cases hs:sEq f.cps[i].name nm<;>simp only[sEq] at hs<;>simp[hs,hi])
  (by simp[cY.d1]) f.cps.length 0 rfl
 simp only[cY,cY.d3,Fl.e,jA,jB,apL,jC,jD]
 rw[show (fun xs:List C=>cY.d2)=fun _=>some (.ret [.i (-1)]) from rfl]
 erw[h]
 rfl
theorem kA (f:Fl) (nm:Str) (hl:f.bts.length≤1048576):fw (f.e++[.s nm])=some [.i (bIx f nm)]:=by
 have h:=kq (l:=f.bts) (body:=apn 4 aJ.d1) (S:=fun i=>[.l (f.bts.map Bt.e),.p [.s nm],.i (f.bts.length:Nat),.i (i:Nat)]) (p:=fun x=>sEq x.name nm) (b:=0)
  (fun i hi=>by
   simp only[apL,jC,jD,aJ.d1,C.I_i,C.L_l,C.S_s,jW,jY,getD_map' Bt.e hi,w1 hi (show f.bts.length<big by simp only[big];omega)]
   simp only[Bt.e,jC,jD,iu,iu.d1,apL,C.S_s,C.uU,C.P_p,jR,jV,ad,jI,C.B_b]
   cases hs:sEq f.bts[i].name nm<;>simp only[sEq] at hs<;>simp[hs,hi])
  (by simp[aJ.d1]) f.bts.length 0 rfl
 simp only[fw,fw.d1,aJ,aJ.d3,Fl.e,jA,jB,apL,jC,jD,C.L_l,jW]
 rw[show (fun xs:List C=>aJ.d2)=fun _=>some (.ret [.i (-1)]) from rfl]
 erw[h]
 rfl
theorem o6 (f:Fl) (nm:Str) (hl:f.cps.length≤1048576):iB (f.e++[.s nm])=some [.i (cIx f nm)]:=by
 have h:=kq (l:=f.cps) (body:=apn 4 aK.d1) (S:=fun i=>[.l (f.cps.map Cp.e),.p [.s nm],.i (f.cps.length:Nat),.i (i:Nat)]) (p:=fun x=>sEq x.name nm) (b:=0)
  (fun i hi=>by
   simp only[apL,jC,jD,aK.d1,C.I_i,C.L_l,C.S_s,jW,jY,getD_map' Cp.e hi,w1 hi (show f.cps.length<big by simp only[big];omega)]
   simp only[Cp.e,jC,jD,jh,jh.d1,apL,C.S_s,C.uU,C.P_p,jR,jV,ad,jI,C.B_b]
   cases hs:sEq f.cps[i].name nm<;>simp only[sEq] at hs<;>simp[hs,hi])
  (by simp[aK.d1]) f.cps.length 0 rfl
 simp only[iB,iB.d1,aK,aK.d3,Fl.e,jA,jB,apL,jC,jD,C.L_l,jW]
 rw[show (fun xs:List C=>aK.d2)=fun _=>some (.ret [.i (-1)]) from rfl]
 erw[h]
 rfl
def gf (s:Str):Str:=mkS (s.data.toList.takeWhile (· !=61))
def hP (s:Str):Str:=mkS (s.data.toList.dropWhile (· !=61)).tail
def rb (s:Str):Bool:=bd (gf s)&&((s.data.toList.dropWhile (· !=61)).isEmpty||bd (hP s))
theorem qI {s:Str} {l:List UInt8} (hl:s.size≤1048576) (h:l.length≤s.data.toList.length):(mkS l).size≤1048576:=by
 rw[nS];rw[dr] at hl;omega
theorem pU (s:Str) (hl:s.size≤1048576):dU [.s s]=some [.s (gf s),.s (hP s),.b (rb s)]:=by
 have key:∀(k i:Nat),s.data.toList.length-i≤k→i≤s.data.toList.length→(s.data.toList.takeWhile (· !=61)).length=i+((s.data.toList.drop i).takeWhile (· !=61)).length→
   ah 0 (lim (apn 2 dU.d1) [.s s,.i i]) (apn 1 dU.d2)=some (.ret [.s (gf s),.s (hP s),.b (rb s)]):=by
  intro k
  induction k with
  |zero=>
   intro i hk hi hr
   have e:i=s.data.toList.length:=by omega
   have hd:s.data.toList.drop i=[]:=List.drop_eq_nil_of_le (by omega)
   rw[hd] at hr
   simp only[List.takeWhile_nil,List.length_nil,Nat.add_zero] at hr
   have hdw:s.data.toList.dropWhile (· !=61)=[]:=by rw[←kG,hr];exact List.drop_eq_nil_of_le (by omega)
   have htw:s.data.toList.takeWhile (· !=61)=s.data.toList:=by
    have:=List.takeWhile_append_dropWhile (p:=fun x:UInt8=>x !=61) (l:=s.data.toList)
    rw[hdw,List.append_nil] at this;exact this
   rw[aU (i:=0) (ys:=[.s s]) (by rw[e,←dr];simp[dU.d1])]
   have h1:gf s=s:=by unfold gf;rw[htw];rfl
   have h2:hP s=mkS []:=by unfold hP;rw[hdw];rfl
   simp[dU.d2,cJ s hl,ad,rb,h1,h2,hdw,eX]
  |succ k ih=>
   intro i hk hi hr
   rcases Nat.lt_or_ge i s.data.toList.length with hlt|hge
   ·have his:i<s.size:=by rw[dr];exact hlt
    have hw:=w1 his (show s.size<big by simp only[big];omega)
    have hd:=List.drop_eq_getElem_cons hlt
    rw[hd,List.takeWhile_cons] at hr
    by_cases hc:s.data.toList[i]=61
    ·have hb:(s.data.toList[i] !=61)=false:=by rw[hc];rfl
     rw[hb] at hr
     simp only[Bool.false_eq_true,if_false,List.length_nil,Nat.add_zero] at hr
     have h1:s.extract 0 i=gf s:=by
      rw[lr,List.drop_zero];unfold gf;rw[←hr,pX]
     have h2:s.extract (i+1) s.size=hP s:=by
      rw[lr,dr,List.take_length];unfold hP
      rw[←kG,hr,List.tail_drop]
     have hn1:(gf s).size≤1048576:=qI hl (qN _ _)
     have hn2:(hP s).size≤1048576:=qI hl (by
      have:=(List.dropWhile_suffix (l:=s.data.toList) (· !=61)).length_le
      rw[List.length_tail];omega)
     have hdw:(s.data.toList.dropWhile (· !=61)).isEmpty=false:=by
      rw[←kG,hr,hd];rfl
     have e1:(i:Int)≤(s.size:Int):=by omega
     have e2:((i+1:Nat):Int)≤(s.size:Int):=by omega
     have hbn:=bn s.data.toList[i] 61 61 rfl
     have hbt:(s.data.toList[i]==61)=true:=by rw[hc];rfl
     have h:apn 2 dU.d1 [.s s,.i i]=some (.ret [.s (gf s),.s (hP s),.b (rb s)]):=by
      simp only[apL,jC,jD,dU.d1,C.I_i,C.S_s,jY,ej hlt,hw,hbn,hbt,h1,h2,cJ _ hn1,cJ _ hn2,ad,jI,C.B_b,e1,e2,decide_true,jR,jX,Int.le_refl,rb,hdw,Bool.false_or]
      cases bd (gf s)<;>simp[his]
     rw[lH h];simp
    ·have hb:(s.data.toList[i] !=61)=true:=by rw[bne_iff_ne];exact hc
     rw[hb] at hr
     simp only[if_true,List.length_cons] at hr
     have hbn:=bn s.data.toList[i] 61 61 rfl
     have hbf:(s.data.toList[i]==61)=false:=by rw[beq_eq_false_iff_ne];exact hc
     have h:apn 2 dU.d1 [.s s,.i i]=some (.again [.s s,.i (i+1:Nat)]):=by
      simp only[apL,jC,jD,dU.d1,C.I_i,C.S_s,jY,ej hlt,hw,hbn,hbf]
      simp[his]
     rw[aI h]
     exact ih (i+1) (by omega) (by omega) (by omega)
   ·exact ih i (by omega) hi hr
 have:=key _ 0 (Nat.le_refl _) (Nat.zero_le _) (by simp)
 simp only[dU,dU.d3,apL,jC]
 erw[this]
 rfl
theorem sJ:∀l:List UInt8,Lib.indexByte l 61=if (l.dropWhile (· !=61)).isEmpty then-1 else ((l.takeWhile (· !=61)).length:Int)
 |[]=>rfl
 |c::r=>by
  simp only[Lib.indexByte,sJ r,List.dropWhile_cons,List.takeWhile_cons]
  by_cases hc:c=61
  ·subst hc;simp
  ·have hb:(c !=61)=true:=by simp[hc]
   have hb2:(c==61)=false:=by simp[hc]
   rw[hb,hb2]
   simp only[if_true,Bool.false_eq_true,if_false]
   cases (r.dropWhile (· !=61)).isEmpty with
   |true=>simp
   |false=>
    have:¬((((r.takeWhile (· !=61)).length:Int)==-1)=true):=by rw[beq_iff_eq];omega
    simp only[Bool.false_eq_true,if_false,if_neg this,List.length_cons]
    omega
theorem yj (s:Str) (hl:s.size≤1048576):mU [.s s]=some [.s (gf s),.s (hP s),.b (rb s)]:=by
 have e1:(bs #[61]).size=1:=rfl
 have e2:(bs #[61]).data.getD 0 0=61:=rfl
 have hix:aZ [.s s,.s (bs #[61])]=some [.i (Lib.indexByte s.data.toList 61)]:=by
  have e3:Nat.toUInt8 (((61:UInt8).toNat:Nat):Int).toNat=61:=rfl
  have e5:((((1:Nat):Int)==0))=false:=rfl
  have e6:((((1:Nat):Int)==1))=true:=rfl
  have e7:(0:Int)<((1:Nat):Int):=by omega
  simp only[aZ,aZ.d2,apL,jC,jD,C.S_s,e1,e5,ja,jR,jJ]
  cases hq:((bs #[61]).toList==s.toList) with
  |true=>
   have:bs #[61]=s:=(cF (bs #[61]) s).1 hq
   subst this
   simp[aZ.d1]
   decide
  |false=>
   simp only[aZ.d1,C.B_b,C.I_i,C.S_s,jS,jR,e1,e6,e7,decide_true,e2,eJ,ibF,jC,jD,e3,ad,jI,jV]
 rw[sJ] at hix
 have hn1:(gf s).size≤1048576:=qI hl (qN _ _)
 have hn2:(hP s).size≤1048576:=qI hl (by
  have:=(List.dropWhile_suffix (l:=s.data.toList) (· !=61)).length_le
  rw[List.length_tail];omega)
 simp only[mU,mU.d1,jg,jg.d1,dc,dc.d1,apL,jC,jD,hix,ad,jI,C.I_i,C.S_s,e1]
 cases he:(s.data.toList.dropWhile (· !=61)).isEmpty with
 |true=>
  have hdw:s.data.toList.dropWhile (· !=61)=[]:=by simpa using he
  have htw:s.data.toList.takeWhile (· !=61)=s.data.toList:=by
   have:=List.takeWhile_append_dropWhile (p:=fun x:UInt8=>x !=61) (l:=s.data.toList)
   rw[hdw,List.append_nil] at this;exact this
  have h1:gf s=s:=by unfold gf;rw[htw];rfl
  have h2:hP s=mkS []:=by unfold hP;rw[hdw];rfl
  have e8:¬((-1:Int)≥0):=by omega
  simp only[if_true,e8,decide_false,jS,jV,call3,jI,jC,jD,C.B_b,fX s hl,rb,he,Bool.true_or,Bool.and_true,h1,h2,eX]
  cases bd s<;>simp
 |false=>
  have hlt:(s.data.toList.takeWhile (· !=61)).length<s.data.toList.length:=by
   have h:=congrArg List.length (List.takeWhile_append_dropWhile (p:=fun x:UInt8=>x !=61) (l:=s.data.toList))
   rw[List.length_append] at h
   cases hq:s.data.toList.dropWhile (· !=61) with
   |nil=>rw[hq] at he;simp at he
   |cons x r=>rw[hq] at h;simp only[List.length_cons] at h;omega
  have his:(s.data.toList.takeWhile (· !=61)).length<s.size:=by rw[dr];exact hlt
  have hw:=w1 his (show s.size<big by simp only[big];omega)
  have h1:s.extract 0 (s.data.toList.takeWhile (· !=61)).length=gf s:=by
   rw[lr,List.drop_zero];unfold gf;rw[pX]
  have h2:s.extract ((s.data.toList.takeWhile (· !=61)).length+1) s.size=hP s:=by
   rw[lr,dr,List.take_length];unfold hP
   rw[←kG,List.tail_drop]
  have e3:(((s.data.toList.takeWhile (· !=61)).length:Int)≥0):=by omega
  have e4:((s.data.toList.takeWhile (· !=61)).length:Int)≤(s.size:Int):=by omega
  have e5:(((s.data.toList.takeWhile (· !=61)).length+1:Nat):Int)≤(s.size:Int):=by omega
  have e6:((1:Nat):Int)=1:=rfl
  simp only[Bool.false_eq_true,if_false,e6,hw,e3,e4,e5,decide_true,jR,jX,Int.le_refl,jY,h1,h2,jV,call3,jI,jC,jD,C.B_b,fX _ hn1,fX _ hn2,rb,he,Bool.false_or,jZ,ja]
  cases bd (gf s)<;>cases bd (hP s)<;>simp
end Go.Ev
namespace Go.Ev
def sLt (a b:Str):Bool:=Op.bytesLess a.toList b.toList
theorem rC:∀(a b:List UInt8),(Op.bytesLess a b||a==b)=!Op.bytesLess b a
 |[],[]=>by simp[Op.bytesLess]
 |[],_::_=>by simp[Op.bytesLess]
 |_::_,[]=>by simp[Op.bytesLess]
 |x::a,y::b=>by
  have ih:=rC a b
  simp only[Op.bytesLess]
  rcases Nat.lt_trichotomy x.toNat y.toNat with h|h|h
  ·have h1:x<y:=h
   have h2:¬y<x:=fun h'=>Nat.lt_asymm h h'
   have h3:¬y=x:=fun e=>by subst e;exact Nat.lt_irrefl _ h
   simp[h1,h2,h3]
  ·have e:x=y:=UInt8.toNat_inj.1 h
   subst e
   have:¬x<x:=Nat.lt_irrefl x.toNat
   simp only[this,decide_false,beq_self_eq_true,Bool.false_or,Bool.true_and]
   simpa using ih
  ·have h1:¬x<y:=fun h'=>Nat.lt_asymm h h'
   have h2:y<x:=h
   have h3:¬x=y:=fun e=>by subst e;exact Nat.lt_irrefl _ h
   simp[h1,h2,h3]
theorem Ec (a b:Str):(sLt a b||sEq a b)=!sLt b a:=rC _ _
theorem nX (z v:C) (k k':Str):∀es:List (List C),jr z k (ln k' v es)=bif sEq k k' then v else jr z k es
 |[]=>by simp[ln,jr,sEq]
 |r::es=>by
  simp only[ln]
  cases h:(k'.toList==(r.getD 0 .nil).S.toList) with
  |true=>
   have e:k'=(r.getD 0 .nil).S:=(cF _ _).1 h
   simp only[jR,jr,jC,jD,C.S_s]
   cases hk:sEq k k' with
   |true=>
    have h1:(k.toList==k'.toList)=true:=hk
    rw[h1];rfl
   |false=>
    have h1:(k.toList==k'.toList)=false:=hk
    have h2:(k.toList==(r.getD 0 .nil).S.toList)=false:=by rw[←e];exact hk
    rw[h1,h2];rfl
  |false=>
   simp only[jS,jr,nX z v k k' es]
   cases h2:sEq k k' with
   |true=>
    have e:=(cF _ _).1 h2
    subst e
    rw[h];rfl
   |false=>simp
theorem jz (a b:Str):sEq a b=sEq b a:=by
 rw[Bool.eq_iff_iff,cF,cF];exact eq_comm
def sAt (ms:List Str) (i:Nat):Str:=ms.getD i (mkS [])
theorem dX {ms:List Str} {i:Nat} (h:i<ms.length):sAt ms i=ms[i]:=by
 unfold sAt;rw[List.getD_eq_getElem?_getD,List.getElem?_eq_getElem h];rfl
def yg (ms:List Str) (nm:Str) (i:Nat):Bool:=aA (fun k=>!sEq (gf (sAt ms k)) nm) 0 i
def nw (ms:List Str) (i:Nat):Bool:=rb (sAt ms i)&&(i==0||sLt (sAt ms (i-1)) (sAt ms i))&&yg ms (gf (sAt ms i)) i
def qX (ms:List Str):Bool:=decide (ms.length≤10)&&aA (nw ms) 0 ms.length
theorem tg (p:Nat→Bool):∀(k i:Nat),aA p i (k+1)=(aA p i k&&p (i+k))
 |0,i=>by simp[aA]
 |k+1,i=>by
  rw[aA,tg p k (i+1),aA]
  rw[show i+1+k=i+(k+1) by omega,Bool.and_assoc]
section
variable {ms:List Str} (hz:tJ 1048576 ms)
include hz
theorem JS (i:Nat) (hi:i≤ms.length) (nm:Str):∀k j,k+j=i→lim (apn 4 bp.d1) [.l (ms.map sE),.i (i:Nat),.s nm,.i (j:Nat)]=bif aA (fun k=>!sEq (gf (sAt ms k)) nm) j k then some (.brk 2 [.l (ms.map sE),.i (i:Nat),.s nm]) else some (.ret [.b false]):=by
 have hl:ms.length<big:=by have:=hz.1;simp only[big];omega
 refine dA (S:=fun j=>[.l (ms.map sE),.i (i:Nat),.s nm,.i (j:Nat)]) (fun j hj=>?_) ?_
 ·have hjl:j<ms.length:=by omega
  have hsz:(sAt ms j).size≤1048576:=by rw[dX hjl];exact hz.2 _ (List.getElem_mem hjl)
  have hjI:(j:Int)<(i:Int):=by omega
  simp only[apL,jC,jD,bp.d1,C.I_i,C.L_l,jW,jY,getD_map' sE hjl,←dX hjl,w1 hjl hl]
  simp only[sE,jC,pU _ hsz,call3,jI,C.S_s,jD]
  cases hq:sEq (gf (sAt ms j)) nm<;>simp only[sEq] at hq<;>simp[hq,hj,hjl]
 ·simp[bp.d1]
theorem wE:bp [.l (ms.map sE)]=some [.b (qX ms)]:=by
 have hl:ms.length<big:=by have:=hz.1;simp only[big];omega
 have h:=dA (body:=apn 3 bp.d4) (S:=fun i=>[.l (ms.map sE),.s (bif i==0 then mkS [] else gf (sAt ms (i-1))),.i (i:Nat)]) (p:=nw ms) (n:=ms.length) (b:=0) (ys:=[]) (r:=[.b false])
  (fun i hi=>by
   have hsz:(sAt ms i).size≤1048576:=by rw[dX hi];exact hz.2 _ (List.getElem_mem hi)
   have hd3:∀nm:Str,bp.d3 (.l (ms.map sE)) (.i (i:Nat)) (.s nm)=bif yg ms nm i then some (.again [.l (ms.map sE),.s nm,.i (i+1:Nat)]) else some (.ret [.b false]):=fun nm=>by
    have:=JS hz i (by omega) nm i 0 (by omega)
    simp only[Int.natCast_zero] at this
    simp only[bp.d3,this,yg]
    cases aA (fun k=>!sEq (gf (sAt ms k)) nm) 0 i<;>simp[bp.d2,w1 hi hl]
   simp only[apL,jC,jD,bp.d4,C.I_i,C.L_l,jW,jY,getD_map' sE hi,←dX hi]
   simp only[sE,jC,pU _ hsz,call3,jI,C.S_s,jD,C.B_b,Nat.add_sub_cancel]
   rcases Nat.eq_zero_or_pos i with h0|h0
   ·subst h0
    cases hok:rb (sAt ms 0) with
    |false=>simp[hok,nw,hi]
    |true=>
     have:=hd3 (gf (sAt ms 0))
     simp only[Int.natCast_zero] at this
     simp[hok,nw,hi,this,yg,aA]
   ·have hi1:i-1<ms.length:=by omega
    have hw:w64 ((i:Int)-1)=((i-1:Nat):Int):=by rw[aQ (by omega) (by simp only[big] at hl;omega)];omega
    have e1:((i:Int)>0):=by omega
    have e2:(((i-1:Nat):Int)<(ms.length:Int)):=by omega
    have e3:((i:Int)<(ms.length:Int)):=by omega
    have e4:(i==0)=false:=by simp;omega
    have e5:(i+1==0)=false:=by simp
    simp only[hw,jY,getD_map' sE hi1,←dX hi1,e1,e2,e3,e4,e5,decide_true,jR,jS,jX,sE,jC,C.S_s,nw,Bool.false_or]
    show (bf (bif (!(!rb (sAt ms i))) then (bif (!(!sLt (sAt ms (i-1)) (sAt ms i))) then (bif sEq (gf (sAt ms i)) (gf (sAt ms (i-1))) then _ else _) else _) else _) _)=_
    cases hok:rb (sAt ms i) with
    |false=>simp
    |true=>
     cases hlt:sLt (sAt ms (i-1)) (sAt ms i) with
     |false=>simp
     |true=>
      cases hq:sEq (gf (sAt ms i)) (gf (sAt ms (i-1))) with
      |false=>simp[hd3]
      |true=>
       have:yg ms (gf (sAt ms i)) i=false:=by
        cases hdu:yg ms (gf (sAt ms i)) i with
        |false=>rfl
        |true=>
         have:=(bX _ _ _).1 hdu (i-1) (by omega) (by omega)
         simp only[Bool.not_eq_true'] at this
         rw[(cF _ _).1 hq] at this
         have h2:=(cF (gf (sAt ms (i-1))) (gf (sAt ms (i-1)))).2 rfl
         rw[h2] at this;simp at this
       simp[this])
  (by simp[bp.d4]) ms.length 0 rfl
 simp only[Int.natCast_zero] at h
 have h:lim (apn 3 bp.d4) [.l (ms.map sE),.s (bs #[]),.i 0]=_:=h
 simp only[bp,bp.d6,apL,jC,C.L_l,jW,h,qX]
 by_cases h10:(ms.length:Int)>10
 ·have:¬ms.length≤10:=by omega
  simp[h10,this]
 ·have:ms.length≤10:=by omega
  simp only[h10,this,decide_true,decide_false,jS,Bool.true_and]
  cases aA (nw ms) 0 ms.length<;>simp[bp.d5]
def Dx (ms:List Str):Nat→List (List C)
 |0=>[]
 |i+1=>ln (gf (sAt ms i)) (.b true) (Dx ms i)
omit hz in
theorem Bg (nm:Str):∀i,(jr (.b false) nm (Dx ms i)).B=!yg ms nm i
 |0=>rfl
 |i+1=>by
  have hd:yg ms nm (i+1)=(yg ms nm i&&!sEq (gf (sAt ms i)) nm):=by
   unfold yg;rw[tg];simp
  rw[Dx,nX,hd,jz]
  have ih:=Bg nm i
  cases h:sEq (gf (sAt ms i)) nm<;>simp[ih]
omit hz in
theorem pY (a b:Str):((Op.bytesLess b.toList a.toList)||(b.toList==a.toList))=!sLt a b:=by
 have:=Ec b a
 exact this
theorem HO (name zone:Str) (room hold:Int) (shut:Bool):lim (apn 10 dN.d1) [.l (ms.map sE),.i (ms.length:Nat),.i 0,.s name,.s zone,.l (ms.map sE),.i room,.i hold,.b shut,.l []]=
  bif aA (nw ms) 0 ms.length then some (.brk 0 []) else some (.ret [.b false]):=by
 have h:=fun hl:ms.length<big=>dA (body:=apn 10 dN.d1) (S:=fun i=>[.l (ms.map sE),.i (ms.length:Nat),.i (i:Nat),.s name,.s zone,.l (ms.map sE),.i room,.i hold,.b shut,.l (Dx ms i)]) (p:=nw ms) (n:=ms.length) (b:=0) (ys:=[]) (r:=[.b false])
  (fun i hi=>by
   have hsz:(sAt ms i).size≤1048576:=by rw[dX hi];exact hz.2 _ (List.getElem_mem hi)
   have e3:((i:Int)<(ms.length:Int)):=by omega
   simp only[apL,jC,jD,dN.d1,C.I_i,C.L_l,jW,jY,getD_map' sE hi,←dX hi,w1 hi hl,e3,decide_true,jR,jX]
   simp only[sE,jC,yj _ hsz,call3,jI,C.S_s,jD,C.B_b,Bg,Bool.not_not,nw]
   cases hok:rb (sAt ms i) with
   |false=>simp
   |true=>
    cases hdu:yg ms (gf (sAt ms i)) i with
    |false=>simp
    |true=>
     rcases Nat.eq_zero_or_pos i with h0|h0
     ·subst h0;simp[Dx]
     ·have hi1:i-1<ms.length:=by omega
      have hw:w64 ((i:Int)-1)=((i-1:Nat):Int):=by rw[aQ (by omega) (by simp only[big] at hl;omega)];omega
      have e1:((i:Int)>0):=by omega
      have e2:(((i-1:Nat):Int)<(ms.length:Int)):=by omega
      have e4:(i==0)=false:=by simp;omega
      simp only[hw,jY,getD_map' sE hi1,←dX hi1,e1,e2,e4,decide_true,jR,jX,sE,jC,C.S_s,pY,Bool.false_or,jZ,ja,jS,Bool.true_and,Bool.and_true]
      cases sLt (sAt ms (i-1)) (sAt ms i)<;>simp[Dx])
  (by simp[dN.d1]) ms.length 0 rfl
 have h:=h (by have:=hz.1;simp only[big];omega)
 simpa [Dx] using h
end
def dy (b:Bt):Bool:=bd b.name&&(bd b.zone&&(qX b.marks&&(within b.room 0 1000&&within b.hold 0 1000)))
theorem xr (b:Bt) (hz:b.Sz 1048576):hD b.e=some [.b (dy b)]:=by
 simp only[hD,hD.d1,Bt.e,apL,jC,jD,cJ _ hz.1,cJ _ hz.2.1,wE hz.2.2,fO,ad,jI,C.B_b,dy]
 cases bd b.name<;>cases bd b.zone<;>cases qX b.marks<;>cases within b.room 0 1000<;>simp
theorem yM (b:Bt) (hz:b.Sz 1048576):dN b.e=some [.b (dy b)]:=by
 have hm:=HO (ms:=b.marks) hz.2.2 b.name b.zone b.room b.hold b.shut
 simp only[dN,dN.d3,Bt.e,apL,jC,jD,fX _ hz.1,fX _ hz.2.1,mO,ad,jI,C.B_b,C.L_l,jW,af,hm,dy,qX]
 by_cases h10:(b.marks.length:Int)>10
 ·have:¬b.marks.length≤10:=by omega
  simp only[h10,this,decide_true,decide_false]
  cases bd b.name<;>cases bd b.zone<;>simp
 ·have:b.marks.length≤10:=by omega
  simp only[h10,this,decide_true,decide_false]
  cases bd b.name<;>cases bd b.zone<;>cases within b.room 0 1000<;>cases within b.hold 0 1000<;>cases aA (nw b.marks) 0 b.marks.length<;>simp[dN.d2]
end Go.Ev
namespace Go.Ev
def mI (s:Str):Bool:=(pp s).code==0
def jb (x:Lk):Bool:=mI x.sel&&within x.w (-9) 9
def zX (s:Str):Bool:=sEq s (mkS [])||bd s
def ig (c:Cp):Bool:=
 bd c.name&&(within c.rank 0 100&&(within c.born 0 1000000&&(within c.room 0 1000&&(within c.hold 0 1000&&(decide (c.likes.length≤5)&&(within c.apart 0 2&&(zX c.near&&(zX c.fixed&&(mI c.sel&&c.likes.all jb)))))))))
theorem pn (s:Str) (hl:s.size≤1048576):fV [.s s]=some [.b (mI s)]:=by
 simp only[fV,fV.d1,apL,jC,pr s hl,call2,jI,jD,C.I_i,jV,mI]
 have:(((pp s).code:Int)==0)=((pp s).code==0):=by
  rw[Bool.eq_iff_iff,beq_iff_eq,beq_iff_eq];omega
 rw[this]
def sC (l:List Lk) (i:Nat):Bool:=match l[i]? with|some x=>jb x|none=>true
theorem zj (l:List Lk):aA (sC l) 0 l.length=l.all jb:=by
 rw[Bool.eq_iff_iff,bX,List.all_eq_true]
 constructor
 ·intro h x hx
  obtain ⟨i,hi,rfl⟩:=List.getElem_of_mem hx
  have:=h i (Nat.zero_le _) (by omega)
  simpa [sC,hi] using this
 ·intro h i _ hi
  have hi:i<l.length:=by omega
  simpa [sC,hi] using h _ (List.getElem_mem hi)
theorem Hw (c:Cp) (hz:c.Sz 1048576) (K:List C→R):ah 0 (lim (apn 13 cd.d1) ([.i 0]++c.e)) K=bif c.likes.all jb then K [] else some (.ret [.b false]):=by
 have hl:c.likes.length<big:=by have:=hz.2.2.2.2.2.2.1;simp only[big];omega
 have h:=dA (body:=apn 13 cd.d1) (S:=fun i=>[.i (i:Nat)]++c.e) (p:=sC c.likes) (n:=c.likes.length) (b:=0) (ys:=[]) (r:=[.b false])
  (fun i hi=>by
   have hsz:=hz.2.2.2.2.2.2.2 _ (List.getElem_mem hi)
   have e3:((i:Int)<(c.likes.length:Int)):=by omega
   have hp:sC c.likes i=jb c.likes[i]:=by simp[sC,hi]
   simp only[Cp.e,jA,jB,apL,jC,jD,cd.d1,C.I_i,C.L_l,jW,jY,getD_map' Lk.e hi,w1 hi hl,e3,decide_true,jR,jX,hp,jb]
   simp only[Lk.e,jC,jD,pn _ hsz,fO,ad,jI,C.B_b]
   cases mI c.likes[i].sel<;>cases within c.likes[i].w (-9) 9<;>simp)
  (by simp[cd.d1,Cp.e]) c.likes.length 0 rfl
 simp only[Int.natCast_zero] at h
 rw[h,zj]
 cases c.likes.all jb<;>simp
theorem yE (c:Cp) (hz:c.Sz 1048576):cd c.e=some [.b (bd c.svc&&ig c)]:=by
 obtain ⟨z1,z2,z3,z4,z5,z6,z7,z8⟩:=hz
 have hlp:=Hw c ⟨z1,z2,z3,z4,z5,z6,z7,z8⟩ (fun xs=>cd.d2)
 simp only[Cp.e,jA,jB] at hlp
 have q1:(c.near.toList==(bs #[]).toList)=sEq c.near (mkS []):=rfl
 have q2:(c.fixed.toList==(bs #[]).toList)=sEq c.fixed (mkS []):=rfl
 simp only[cd,cd.d4,Cp.e,apL,jC,jD,cJ _ z1,cJ _ z2,cJ _ z4,cJ _ z5,fO,pn _ z3,ad,jI,C.B_b,C.L_l,C.S_s,jW,ig,zX,q1,q2]
 have e5:decide ((c.likes.length:Int)>5)=!decide (c.likes.length≤5):=by
  by_cases h:c.likes.length≤5
  ·have:¬((c.likes.length:Int)>5):=by omega
   simp[h,this]
  ·have:((c.likes.length:Int)>5):=by omega
   simp[h,this]
 rw[e5]
 cases bd c.name with
 |false=>simp
 |true=>
 cases bd c.svc with
 |false=>simp
 |true=>
 cases within c.rank 0 100 with
 |false=>simp
 |true=>
 cases within c.born 0 1000000 with
 |false=>simp
 |true=>
 cases within c.room 0 1000 with
 |false=>simp
 |true=>
 cases within c.hold 0 1000 with
 |false=>simp
 |true=>
 simp only[jZ,ja,jR,jS,Bool.true_and]
 cases mI c.sel with
 |false=>simp[cd.d3]
 |true=>
 cases decide (c.likes.length≤5) with
 |false=>simp[cd.d3]
 |true=>
 cases within c.apart 0 2 with
 |false=>simp[cd.d3]
 |true=>
 simp only[jZ,ja,jR,jS,Bool.true_and]
 cases sEq c.near (mkS [])<;>cases bd c.near<;>cases sEq c.fixed (mkS [])<;>cases bd c.fixed<;>simp[cd.d3,hlp]<;>cases c.likes.all jb<;>simp[cd.d2]
theorem Ih (l:List Lk) (hz:l.length≤1048576∧∀x,x∈l→x.sel.size≤1048576) (K:List C→R):ah 0 (lim (apn 3 dg.d1) [.l (l.map Lk.e),.i (l.length:Nat),.i 0]) K=bif l.all jb then K [] else some (.ret [.b false]):=by
 have hl:l.length<big:=by have:=hz.1;simp only[big];omega
 have h:=dA (body:=apn 3 dg.d1) (S:=fun i=>[.l (l.map Lk.e),.i (l.length:Nat),.i (i:Nat)]) (p:=sC l) (n:=l.length) (b:=0) (ys:=[]) (r:=[.b false])
  (fun i hi=>by
   have hsz:=hz.2 _ (List.getElem_mem hi)
   have e3:((i:Int)<(l.length:Int)):=by omega
   have hp:sC l i=jb l[i]:=by simp[sC,hi]
   have hc:(((pp l[i].sel).code:Int) !=0)=!mI l[i].sel:=by
    unfold mI bne
    congr 1
    rw[Bool.eq_iff_iff,beq_iff_eq,beq_iff_eq];omega
   simp only[apL,jC,jD,dg.d1,C.I_i,C.L_l,jW,jY,getD_map' Lk.e hi,w1 hi hl,e3,decide_true,jR,jX,hp,jb]
   simp only[Lk.e,jC,jD,pK _ hsz,mO,ad,call2,jI,C.B_b,C.I_i,hc]
   cases mI l[i].sel<;>cases within l[i].w (-9) 9<;>simp)
  (by simp[dg.d1]) l.length 0 rfl
 simp only[Int.natCast_zero] at h
 rw[h,zj]
 cases l.all jb<;>simp
theorem zM (c:Cp) (hz:c.Sz 1048576):dg c.e=some [.b (ig c)]:=by
 obtain ⟨z1,z2,z3,z4,z5,z6,z7⟩:=hz
 have hlp:=Ih c.likes z7 (fun xs=>dg.d2)
 have q1:(c.near.toList==(bs #[]).toList)=sEq c.near (mkS []):=rfl
 have q2:(c.fixed.toList==(bs #[]).toList)=sEq c.fixed (mkS []):=rfl
 have hc:(((pp c.sel).code:Int) !=0)=!mI c.sel:=by
  unfold mI bne
  congr 1
  rw[Bool.eq_iff_iff,beq_iff_eq,beq_iff_eq];omega
 simp only[dg,dg.d4,Cp.e,apL,jC,jD,fX _ z1,fX _ z4,fX _ z5,mO,ad,jI,C.B_b,C.L_l,C.S_s,jW,ig,zX,q1,q2]
 have e5:decide ((c.likes.length:Int)>5)=!decide (c.likes.length≤5):=by
  by_cases h:c.likes.length≤5
  ·have:¬((c.likes.length:Int)>5):=by omega
   simp[h,this]
  ·have:((c.likes.length:Int)>5):=by omega
   simp[h,this]
 rw[e5]
 have hd3:∀b:Bool,dg.d3 (.b b) (.s c.name) (.s c.svc) (.i c.rank) (.i c.born) (.i c.room) (.i c.hold) (.s c.sel) (.l (c.likes.map Lk.e)) (.i c.apart) (.s c.near) (.s c.fixed) (.s c.at_)=bif b then some (.ret [.b false]) else bif mI c.sel&&c.likes.all jb then some (.ret [.b true]) else some (.ret [.b false]):=fun b=>by
  simp only[dg.d3,C.B_b,pK _ z3,call2,jI,jC,jD,C.I_i,hc,C.L_l,jW,hlp]
  cases b<;>cases mI c.sel<;>cases c.likes.all jb<;>simp[dg.d2]
 cases bd c.name with
 |false=>simp[hd3]
 |true=>
 cases within c.rank 0 100 with
 |false=>simp[hd3]
 |true=>
 cases within c.born 0 1000000 with
 |false=>simp[hd3]
 |true=>
 cases within c.room 0 1000 with
 |false=>simp[hd3]
 |true=>
 cases within c.hold 0 1000 with
 |false=>simp[hd3]
 |true=>
 simp only[jZ,ja,jR,jS,Bool.true_and]
 cases decide (c.likes.length≤5) with
 |false=>simp[hd3]
 |true=>
 cases within c.apart 0 2 with
 |false=>simp[hd3]
 |true=>
 simp only[jZ,ja,jR,jS,Bool.true_and]
 cases sEq c.near (mkS [])<;>cases bd c.near<;>cases sEq c.fixed (mkS [])<;>cases bd c.fixed<;>simp[hd3]<;>cases mI c.sel&&c.likes.all jb<;>simp
def lZ (l:List Cp) (nm:Str):Nat→Int
 |0=>0
 |i+1=>match l[i]? with
  |some c=>bif sEq c.at_ nm then w64 (lZ l nm i+c.room) else lZ l nm i
  |none=>lZ l nm i
def lW (l:List Cp) (nm:Str):Nat→Int
 |0=>0
 |i+1=>match l[i]? with
  |some c=>bif sEq c.at_ nm then w64 (lW l nm i+c.hold) else lW l nm i
  |none=>lW l nm i
def used (f:Fl) (nm:Str):Int×Int:=bif sEq nm (mkS [])||decide (bIx f nm<0) then (0,0) else (lZ f.cps nm f.cps.length,lW f.cps nm f.cps.length)
theorem wY (f:Fl) (nm:Str) (hz:f.Sz 1048576):bR (f.e++[.s nm])=some [.i (used f nm).1,.i (used f nm).2]:=by
 have hl:f.cps.length<big:=by have:=hz.2.2.1;simp only[big];omega
 have hb:=iw f nm hz.1.1
 have q1:(nm.toList==(bs #[]).toList)=sEq nm (mkS []):=rfl
 simp only[Fl.e,jA,jB] at hb
 simp only[bR,bR.d4,Fl.e,jA,jB,apL,jC,jD,hb,ad,jI,C.I_i,used]
 cases hlt:decide (bIx f nm<0) with
 |true=>simp
 |false=>
  simp only[jS,Bool.or_false]
  cases he:sEq nm (mkS []) with
  |true=>
   have h:=bH (body:=apn 8 bR.d2) (S:=fun i=>[.s nm,.i 0,.i 0,.i (i:Nat),.b f.pack,.l (f.bts.map Bt.e),.l (f.svs.map Sv.e),.l (f.cps.map Cp.e)]) (n:=f.cps.length) (b:=0) (ys:=[.i 0,.i 0])
    (fun i hi=>by
     have e3:((i:Int)<(f.cps.length:Int)):=by omega
     simp only[apL,jC,jD,bR.d2,bR.d1,C.I_i,C.L_l,C.S_s,jW,q1,he,e3,decide_true,jR,jZ,jS,jJ,C.B_b,w1 hi hl])
    (by simp[bR.d2]) f.cps.length 0 rfl
   simp only[Int.natCast_zero] at h
   rw[h]
   simp[bR.d3]
  |false=>
   have h:=bH (body:=apn 8 bR.d2) (S:=fun i=>[.s nm,.i (lZ f.cps nm i),.i (lW f.cps nm i),.i (i:Nat),.b f.pack,.l (f.bts.map Bt.e),.l (f.svs.map Sv.e),.l (f.cps.map Cp.e)]) (n:=f.cps.length) (b:=0) (ys:=[.i (lZ f.cps nm f.cps.length),.i (lW f.cps nm f.cps.length)])
    (fun i hi=>by
     have e3:((i:Int)<(f.cps.length:Int)):=by omega
     simp only[apL,jC,jD,bR.d2,bR.d1,C.I_i,C.L_l,C.S_s,jW,jY,getD_map' Cp.e hi,q1,he,e3,decide_true,jR,ja,jX,jJ,C.B_b,w1 hi hl,lZ,lW,List.getElem?_eq_getElem hi]
     simp only[Cp.e,jC,jD,C.S_s,C.I_i]
     show (bif sEq f.cps[i].at_ nm then _ else _)=_
     cases sEq f.cps[i].at_ nm<;>simp)
    (by simp[bR.d2]) f.cps.length 0 rfl
   simp only[Int.natCast_zero,lZ,lW] at h
   rw[h]
   simp[bR.d3]
theorem yw (f:Fl) (nm:Str) (hz:f.Sz 1048576):dE (f.e++[.s nm])=some [.i (used f nm).1,.i (used f nm).2]:=by
 have hl:f.cps.length<big:=by have:=hz.2.2.1;simp only[big];omega
 have hb:=kA f nm hz.1.1
 have q1:(nm.toList==(bs #[]).toList)=sEq nm (mkS []):=rfl
 simp only[Fl.e,jA,jB] at hb
 simp only[dE,dE.d3,Fl.e,jA,jB,apL,jC,jD,C.S_s,q1,hb,ad,jI,C.I_i,C.L_l,jW,used]
 cases he:sEq nm (mkS []) with
 |true=>simp
 |false=>
  simp only[ja,jR,Bool.false_or]
  cases hlt:decide (bIx f nm<0) with
  |true=>simp
  |false=>
   have h:=bH (body:=apn 6 dE.d1) (S:=fun i=>[.s nm,.i (lZ f.cps nm i),.i (lW f.cps nm i),.l (f.cps.map Cp.e),.i (f.cps.length:Nat),.i (i:Nat)]) (n:=f.cps.length) (b:=0) (ys:=[.i (lZ f.cps nm f.cps.length),.i (lW f.cps nm f.cps.length)])
    (fun i hi=>by
     have e3:((i:Int)<(f.cps.length:Int)):=by omega
     simp only[apL,jC,jD,dE.d1,C.I_i,C.L_l,C.S_s,jW,jY,getD_map' Cp.e hi,e3,decide_true,jR,jX,w1 hi hl,lZ,lW,List.getElem?_eq_getElem hi]
     simp only[Cp.e,jC,jD,C.S_s,C.I_i]
     show (bif sEq f.cps[i].at_ nm then _ else _)=_
     cases sEq f.cps[i].at_ nm<;>simp)
    (by simp[dE.d1]) f.cps.length 0 rfl
   simp only[Int.natCast_zero,lZ,lW] at h
   rw[h]
   simp[dE.d2]
end Go.Ev
namespace Go.Ev
theorem lT {α:Type} (p:α→Bool):∀(l:List α) (n:Nat),decide (fu p l n<0)=!l.any p
 |[],n=>by simp[fu]
 |x::r,n=>by
  cases hx:p x with
  |true=>
   have:¬((n:Int)<0):=by omega
   simp[fu,hx,this]
  |false=>simp[fu,hx,lT p r (n+1)]
def eD (l:List Cp) (nm:Str):Nat→Nat
 |0=>0
 |i+1=>match l[i]? with
  |some c=>bif sEq c.at_ nm then eD l nm i+1 else eD l nm i
  |none=>eD l nm i
theorem uC (l:List Cp) (nm:Str):∀i,eD l nm i≤i
 |0=>Nat.le_refl _
 |i+1=>by
  have:=uC l nm i
  simp only[eD]
  split
  ·rename_i c _
   cases sEq c.at_ nm<;>simp<;>omega
  ·omega
theorem As (f:Fl) (nm:Str) (hz:f.Sz 1048576):eu (f.e++[.s nm])=some [.i (eD f.cps nm f.cps.length:Nat)]:=by
 have hl:f.cps.length<big:=by have:=hz.2.2.1;simp only[big];omega
 have h:=bH (body:=apn 7 eu.d1) (S:=fun i=>[.s nm,.i (eD f.cps nm i:Nat),.i (i:Nat),.b f.pack,.l (f.bts.map Bt.e),.l (f.svs.map Sv.e),.l (f.cps.map Cp.e)]) (n:=f.cps.length) (b:=0) (ys:=[.i (eD f.cps nm f.cps.length:Nat)])
  (fun i hi=>by
   have e3:((i:Int)<(f.cps.length:Int)):=by omega
   have hw:=tl (n:=eD f.cps nm i) (by have:=uC f.cps nm i;omega)
   simp only[apL,jC,jD,eu.d1,C.I_i,C.L_l,C.S_s,jW,jY,getD_map' Cp.e hi,e3,decide_true,jR,jX,w1 hi hl,hw,eD,List.getElem?_eq_getElem hi]
   simp only[Cp.e,jC,jD,C.S_s]
   show (bif sEq f.cps[i].at_ nm then _ else _)=_
   cases sEq f.cps[i].at_ nm<;>simp)
  (by simp[eu.d1]) f.cps.length 0 rfl
 simp only[Int.natCast_zero,eD] at h
 simp only[eu,eu.d3,Fl.e,jA,jB,apL,jC,jD]
 rw[h]
 simp[eu.d2]
def svA (f:Fl) (i:Nat):Bool:=match f.svs[i]? with
 |some s=>bd s.name&&((i==0||match f.svs[i-1]? with|some q=>sLt q.name s.name|none=>true)&&within s.spare 0 60)
 |none=>true
def cpA (f:Fl) (i:Nat):Bool:=match f.cps[i]? with
 |some c=>ig c&&(f.svs.any (fun s=>sEq s.name c.svc)&&((i==0||match f.cps[i-1]? with|some q=>sLt q.name c.name|none=>true)&&(sEq c.at_ (mkS [])||f.bts.any (fun b=>sEq b.name c.at_))))
 |none=>true
def btA (f:Fl) (i:Nat):Bool:=match f.bts[i]? with
 |some b=>dy b&&(i==0||match f.bts[i-1]? with|some q=>sLt q.name b.name|none=>true)
 |none=>true
def rV (f:Fl) (i:Nat):Bool:=match f.bts[i]? with
 |some b=>decide ((used f b.name).1≤b.room)&&(decide ((used f b.name).2≤b.hold)&&decide (eD f.cps b.name f.cps.length≤10))
 |none=>true
def bO (f:Fl):Bool:=decide (f.bts.length≤12)&&(decide (f.svs.length≤30)&&(decide (f.cps.length≤60)&&(aA (svA f) 0 f.svs.length&&(aA (cpA f) 0 f.cps.length&&(aA (btA f) 0 f.bts.length&&aA (rV f) 0 f.bts.length)))))
section
variable {f:Fl} (hz:f.Sz 1048576)
include hz
theorem Kj (K:List C→R):ah 0 (lim (apn 5 ay.d1) ([.i 0]++f.e)) K=bif aA (svA f) 0 f.svs.length then K f.e else some (.ret [.b false]):=by
 have hl:f.svs.length<big:=by have:=hz.2.1.1;simp only[big];omega
 have h:=dA (body:=apn 5 ay.d1) (S:=fun i=>[.i (i:Nat)]++f.e) (p:=svA f) (n:=f.svs.length) (b:=0) (ys:=f.e) (r:=[.b false])
  (fun i hi=>by
   have hsz:=hz.2.1.2 _ (List.getElem_mem hi)
   have e3:((i:Int)<(f.svs.length:Int)):=by omega
   have hp:svA f i=(bd f.svs[i].name&&((i==0||match f.svs[i-1]? with|some q=>sLt q.name f.svs[i].name|none=>true)&&within f.svs[i].spare 0 60)):=by simp[svA,hi]
   simp only[Fl.e,jA,jB,apL,jC,jD,ay.d1,C.I_i,C.L_l,jW,jY,getD_map' Sv.e hi,w1 hi hl,e3,decide_true,jR,jX,hp]
   simp only[Sv.e,jC,jD,cJ _ hsz,fO,ad,jI,C.B_b,C.S_s]
   cases hn:bd f.svs[i].name with
   |false=>simp
   |true=>
    rcases Nat.eq_zero_or_pos i with h0|h0
    ·subst h0
     cases within f.svs[0].spare 0 60<;>simp
    ·have hi1:i-1<f.svs.length:=by omega
     have hw:w64 ((i:Int)-1)=((i-1:Nat):Int):=by rw[aQ (by omega) (by simp only[big] at hl;omega)];omega
     have e1:((i:Int)>0):=by omega
     have e2:(((i-1:Nat):Int)<(f.svs.length:Int)):=by omega
     have e4:(i==0)=false:=by simp;omega
     simp only[hw,jY,getD_map' Sv.e hi1,e1,e2,e4,decide_true,jR,jX,List.getElem?_eq_getElem hi1,Bool.false_or,jZ,ja,Bool.true_and]
     simp only[Sv.e,jC,C.S_s]
     show (bif (!(!sLt f.svs[i-1].name f.svs[i].name)) then _ else _)=_
     cases sLt f.svs[i-1].name f.svs[i].name<;>cases within f.svs[i].spare 0 60<;>simp)
  (by simp[ay.d1,Fl.e]) f.svs.length 0 rfl
 simp only[Int.natCast_zero] at h
 rw[h]
 cases aA (svA f) 0 f.svs.length<;>simp
theorem Kg (hn:∀s,s∈f.svs→bd s.name=true) (K:List C→R):ah 2 (lim (apn 5 ay.d3) ([.i 0]++f.e)) K=bif aA (cpA f) 0 f.cps.length then K f.e else some (.ret [.b false]):=by
 have hl:f.cps.length<big:=by have:=hz.2.2.1;simp only[big];omega
 have h:=dA (body:=apn 5 ay.d3) (S:=fun i=>[.i (i:Nat)]++f.e) (p:=cpA f) (n:=f.cps.length) (b:=2) (ys:=f.e) (r:=[.b false])
  (fun i hi=>by
   have hsz:=hz.2.2.2 _ (List.getElem_mem hi)
   have e3:((i:Int)<(f.cps.length:Int)):=by omega
   have hp:cpA f i=(ig f.cps[i]&&(f.svs.any (fun s=>sEq s.name f.cps[i].svc)&&((i==0||match f.cps[i-1]? with|some q=>sLt q.name f.cps[i].name|none=>true)&&(sEq f.cps[i].at_ (mkS [])||f.bts.any (fun b=>sEq b.name f.cps[i].at_))))):=by simp[cpA,hi]
   have hsv:=xZ f f.cps[i].svc hz.2.1.1
   have hbt:=iw f f.cps[i].at_ hz.1.1
   have hco:=yE f.cps[i] hsz
   have q1:(f.cps[i].at_.toList==(bs #[]).toList)=sEq f.cps[i].at_ (mkS []):=rfl
   have hs1:decide (sIx f f.cps[i].svc<0)=!f.svs.any (fun s=>sEq s.name f.cps[i].svc):=lT _ _ _
   have hb1:decide (bIx f f.cps[i].at_<0)=!f.bts.any (fun b=>sEq b.name f.cps[i].at_):=lT _ _ _
   have hany:f.svs.any (fun s=>sEq s.name f.cps[i].svc)=true→bd f.cps[i].svc=true:=fun h=>by
    obtain ⟨s,h1,h2⟩:=List.any_eq_true.1 h
    rw[←(cF _ _).1 h2];exact hn s h1
   simp only[Fl.e,jA,jB] at hsv hbt
   simp only[Cp.e] at hco
   simp only[Fl.e,jA,jB,apL,jC,jD,ay.d3,C.I_i,C.L_l,jW,jY,getD_map' Cp.e hi,e3,decide_true,jR,jX,hp]
   simp only[Cp.e,jC,jD,hco,hsv,hbt,ad,jI,C.B_b,C.S_s,C.I_i,q1,hs1,hb1]
   have hd2:∀b:Bool,ay.d2 (.i (i:Nat)) (.b b) (.b f.pack) (.l (f.bts.map Bt.e)) (.l (f.svs.map Sv.e)) (.l (f.cps.map Cp.e))=bif b then some (.ret [.b false]) else some (.again [.i (i+1:Nat),.b f.pack,.l (f.bts.map Bt.e),.l (f.svs.map Sv.e),.l (f.cps.map Cp.e)]):=fun b=>by
    simp only[ay.d2,C.B_b,C.I_i,w1 hi hl]
   cases hany2:f.svs.any (fun s=>sEq s.name f.cps[i].svc) with
   |false=>
    have:∀a b:Bool,(a&&(false&&b))=false:=by decide
    rw[this]
    cases bd f.cps[i].svc&&ig f.cps[i] with
    |false=>simp[hd2]
    |true=>
     rcases Nat.eq_zero_or_pos i with h0|h0
     ·subst h0
      simp only[Int.natCast_zero] at hd2
      simp[hd2]
     ·have hi1:i-1<f.cps.length:=by omega
      have hw:w64 ((i:Int)-1)=((i-1:Nat):Int):=by rw[aQ (by omega) (by simp only[big] at hl;omega)];omega
      have e1:((i:Int)>0):=by omega
      have e2:(((i-1:Nat):Int)<(f.cps.length:Int)):=by omega
      simp only[hw,jY,getD_map' Cp.e hi1,e1,e2,decide_true,jR,jX,jZ,ja,jS]
      cases (Op.bytesLess ((f.cps[i-1].e.getD 0 .nil).S).toList (f.cps[i].name).toList)<;>simp[hd2]
   |true=>
    rw[hany hany2,Bool.true_and,Bool.true_and]
    cases ig f.cps[i] with
    |false=>simp[hd2]
    |true=>
     rcases Nat.eq_zero_or_pos i with h0|h0
     ·subst h0
      simp only[Int.natCast_zero] at hd2
      cases sEq f.cps[0].at_ (mkS [])<;>cases f.bts.any (fun b=>sEq b.name f.cps[0].at_)<;>simp[hd2]
     ·have hi1:i-1<f.cps.length:=by omega
      have hw:w64 ((i:Int)-1)=((i-1:Nat):Int):=by rw[aQ (by omega) (by simp only[big] at hl;omega)];omega
      have e1:((i:Int)>0):=by omega
      have e2:(((i-1:Nat):Int)<(f.cps.length:Int)):=by omega
      have e4:(i==0)=false:=by simp;omega
      simp only[hw,jY,getD_map' Cp.e hi1,e1,e2,e4,decide_true,jR,jX,List.getElem?_eq_getElem hi1,Bool.false_or,jZ,ja,jS,Bool.true_and]
      have hn0:(f.cps[i-1].e.getD 0 .nil).S=f.cps[i-1].name:=rfl
      rw[hn0]
      show bf (bif (!(!sLt f.cps[i-1].name f.cps[i].name)) then _ else _) _=_
      cases sLt f.cps[i-1].name f.cps[i].name<;>cases sEq f.cps[i].at_ (mkS [])<;>cases f.bts.any (fun b=>sEq b.name f.cps[i].at_)<;>simp[hd2])
  (by simp[ay.d3,Fl.e]) f.cps.length 0 rfl
 simp only[Int.natCast_zero] at h
 rw[h]
 cases aA (cpA f) 0 f.cps.length<;>simp
theorem Kn (K:List C→R):ah 4 (lim (apn 5 ay.d4) ([.i 0]++f.e)) K=bif aA (fun i=>btA f i&&rV f i) 0 f.bts.length then K [] else some (.ret [.b false]):=by
 have hl:f.bts.length<big:=by have:=hz.1.1;simp only[big];omega
 have h:=dA (body:=apn 5 ay.d4) (S:=fun i=>[.i (i:Nat)]++f.e) (p:=fun i=>btA f i&&rV f i) (n:=f.bts.length) (b:=4) (ys:=[]) (r:=[.b false])
  (fun i hi=>by
   have hsz:=hz.1.2 _ (List.getElem_mem hi)
   have e3:((i:Int)<(f.bts.length:Int)):=by omega
   have hp:btA f i=(dy f.bts[i]&&(i==0||match f.bts[i-1]? with|some q=>sLt q.name f.bts[i].name|none=>true)):=by simp[btA,hi]
   have hq:rV f i=(decide ((used f f.bts[i].name).1≤f.bts[i].room)&&(decide ((used f f.bts[i].name).2≤f.bts[i].hold)&&decide (eD f.cps f.bts[i].name f.cps.length≤10))):=by simp[rV,hi]
   have hu:=wY f f.bts[i].name hz
   have hs:=As f f.bts[i].name hz
   have hb:=xr f.bts[i] hsz
   have g1:decide ((used f f.bts[i].name).1>f.bts[i].room)=!decide ((used f f.bts[i].name).1≤f.bts[i].room):=by rw[←decide_not,decide_eq_decide];omega
   have g2:decide ((used f f.bts[i].name).2>f.bts[i].hold)=!decide ((used f f.bts[i].name).2≤f.bts[i].hold):=by rw[←decide_not,decide_eq_decide];omega
   have g3:decide ((eD f.cps f.bts[i].name f.cps.length:Int)>10)=!decide (eD f.cps f.bts[i].name f.cps.length≤10):=by rw[←decide_not,decide_eq_decide];omega
   simp only[Fl.e,jA,jB] at hu hs
   simp only[Bt.e] at hb
   simp only[Fl.e,jA,jB,apL,jC,jD,ay.d4,C.I_i,C.L_l,jW,jY,getD_map' Bt.e hi,e3,decide_true,jR,jX,w1 hi hl]
   simp only[Bt.e,jC,jD,hu,hs,hb,ad,call2,jI,C.B_b,C.S_s,C.I_i,g1,g2,g3,hp,hq,Bool.not_not]
   cases dy f.bts[i] with
   |false=>simp
   |true=>
    rcases Nat.eq_zero_or_pos i with h0|h0
    ·subst h0
     cases decide ((used f f.bts[0].name).1≤f.bts[0].room)<;>cases decide ((used f f.bts[0].name).2≤f.bts[0].hold)<;>cases decide (eD f.cps f.bts[0].name f.cps.length≤10)<;>simp
    ·have hi1:i-1<f.bts.length:=by omega
     have hw:w64 ((i:Int)-1)=((i-1:Nat):Int):=by rw[aQ (by omega) (by simp only[big] at hl;omega)];omega
     have e1:((i:Int)>0):=by omega
     have e2:(((i-1:Nat):Int)<(f.bts.length:Int)):=by omega
     have e4:(i==0)=false:=by simp;omega
     simp only[hw,jY,getD_map' Bt.e hi1,e1,e2,e4,decide_true,jR,jX,List.getElem?_eq_getElem hi1,Bool.false_or,jZ,ja,jS,Bool.true_and]
     have hn0:(f.bts[i-1].e.getD 0 .nil).S=f.bts[i-1].name:=rfl
     rw[hn0]
     show (bif sLt f.bts[i-1].name f.bts[i].name then _ else _)=_
     cases sLt f.bts[i-1].name f.bts[i].name<;>cases decide ((used f f.bts[i].name).1≤f.bts[i].room)<;>cases decide ((used f f.bts[i].name).2≤f.bts[i].hold)<;>cases decide (eD f.cps f.bts[i].name f.cps.length≤10)<;>simp)
  (by simp[ay.d4,Fl.e]) f.bts.length 0 rfl
 simp only[Int.natCast_zero] at h
 rw[h]
 cases aA (fun i=>btA f i&&rV f i) 0 f.bts.length<;>simp
omit hz in
theorem E1 (h:aA (svA f) 0 f.svs.length=true):∀s,s∈f.svs→bd s.name=true:=by
 intro s hs
 obtain ⟨i,hi,rfl⟩:=List.getElem_of_mem hs
 have:=(bX _ _ _).1 h i (Nat.zero_le _) (by omega)
 simp only[svA,List.getElem?_eq_getElem hi,Bool.and_eq_true] at this
 exact this.1
omit hz in
theorem vt (p q:Nat→Bool):∀k i,aA (fun i=>p i&&q i) i k=(aA p i k&&aA q i k)
 |0,i=>rfl
 |k+1,i=>by
  simp only[aA,vt p q k (i+1)]
  cases p i<;>cases q i<;>cases aA p (i+1) k<;>simp
theorem gP:ay f.e=some [.b (bO f)]:=by
 have h1:=Kj hz (apn 4 ay.d7)
 have h3:=Kn hz (fun xs=>ay.d5)
 simp only[Fl.e,jA,jB] at h1 h3
 have g1:decide ((f.bts.length:Int)>12)=!decide (f.bts.length≤12):=by rw[←decide_not,decide_eq_decide];omega
 have g2:decide ((f.svs.length:Int)>30)=!decide (f.svs.length≤30):=by rw[←decide_not,decide_eq_decide];omega
 have g3:decide ((f.cps.length:Int)>60)=!decide (f.cps.length≤60):=by rw[←decide_not,decide_eq_decide];omega
 simp only[ay,ay.d8,Fl.e,apL,jC,jD,C.L_l,jW,g1,g2,g3,Bool.not_not,h1,bO]
 cases decide (f.bts.length≤12) with
 |false=>simp
 |true=>
 cases decide (f.svs.length≤30) with
 |false=>simp
 |true=>
 cases decide (f.cps.length≤60) with
 |false=>simp
 |true=>
 cases hs:aA (svA f) 0 f.svs.length with
 |false=>simp
 |true=>
  have h2:=Kg hz (E1 hs) (apn 4 ay.d6)
  simp only[Fl.e,jA,jB] at h2
  simp only[jR,jZ,jS,Bool.true_and,ay.d7,apL,jC,jD,h2]
  cases aA (cpA f) 0 f.cps.length with
  |false=>simp
  |true=>
   simp only[jR,Bool.true_and,ay.d6,apL,jC,jD,h3,vt]
   cases aA (btA f) 0 f.bts.length<;>cases aA (rV f) 0 f.bts.length<;>simp[ay.d5]
end
end Go.Ev
namespace Go.Ev
def uN (l:List Sv):Nat→List (List C)
 |0=>[]
 |i+1=>match l[i]? with
  |some s=>ln s.name (.b true) (uN l i)
  |none=>uN l i
theorem Bp (l:List Sv) (nm:Str):∀i,i≤l.length→(jr (.b false) nm (uN l i)).B=(l.take i).any (fun s=>sEq s.name nm)
 |0,_=>rfl
 |i+1,h=>by
  have hi:i<l.length:=h
  rw[uN,List.getElem?_eq_getElem hi]
  simp only
  rw[nX,List.take_succ_eq_append_getElem hi,List.any_append,jz]
  have ih:=Bp l nm i (by omega)
  cases hq:sEq l[i].name nm with
  |true=>simp[hq]
  |false=>simp[hq,ih]
def sP (l:List Cp):Nat→List (List C)
 |0=>[]
 |i+1=>match l[i]? with
  |some c=>ln c.at_ (.i (w64 ((jr (.i 0) c.at_ (sP l i)).I+1))) (sP l i)
  |none=>sP l i
theorem xi (l:List Cp) (hl:l.length<big) (nm:Str):∀i,i≤l.length→jr (.i 0) nm (sP l i)=.i (eD l nm i:Nat)
 |0,_=>rfl
 |i+1,h=>by
  have hi:i<l.length:=h
  have ih:=xi l hl nm i (by omega)
  have ih2:=xi l hl l[i].at_ i (by omega)
  rw[sP,eD,List.getElem?_eq_getElem hi]
  simp only
  rw[nX,ih,ih2,jz]
  have hw:=tl (n:=eD l l[i].at_ i) (by have:=uC l l[i].at_ i;omega)
  cases hq:sEq l[i].at_ nm with
  |true=>
   have:=(cF _ _).1 hq
   subst this
   simp only[jR,C.I_i,hw]
  |false=>rfl
section
variable {f:Fl} (hz:f.Sz 1048576)
include hz
theorem Kx (K:List C→R):ah 0 (lim (apn 7 ar.d1) ([.l (f.bts.map Bt.e),.i (f.bts.length:Nat),.i 0]++f.e)) K=bif aA (btA f) 0 f.bts.length then K f.e else some (.ret [.b false]):=by
 have hl:f.bts.length<big:=by have:=hz.1.1;simp only[big];omega
 have h:=dA (body:=apn 7 ar.d1) (S:=fun i=>[.l (f.bts.map Bt.e),.i (f.bts.length:Nat),.i (i:Nat)]++f.e) (p:=btA f) (n:=f.bts.length) (b:=0) (ys:=f.e) (r:=[.b false])
  (fun i hi=>by
   have hsz:=hz.1.2 _ (List.getElem_mem hi)
   have e3:((i:Int)<(f.bts.length:Int)):=by omega
   have hp:btA f i=(dy f.bts[i]&&(i==0||match f.bts[i-1]? with|some q=>sLt q.name f.bts[i].name|none=>true)):=by simp only[btA,List.getElem?_eq_getElem hi]<;>rfl
   have hb:=yM f.bts[i] hsz
   simp only[Bt.e] at hb
   simp only[Fl.e,jA,jB,apL,jC,jD,ar.d1,C.I_i,C.L_l,jW,jY,getD_map' Bt.e hi,e3,decide_true,jR,jX,w1 hi hl]
   simp only[Bt.e,jC,jD,hb,ad,jI,C.B_b,C.S_s,hp]
   cases dy f.bts[i] with
   |false=>simp
   |true=>
    rcases Nat.eq_zero_or_pos i with h0|h0
    ·subst h0;simp
    ·have hi1:i-1<f.bts.length:=by omega
     have hw:w64 ((i:Int)-1)=((i-1:Nat):Int):=by rw[aQ (by omega) (by simp only[big] at hl;omega)];omega
     have e1:((i:Int)>0):=by omega
     have e2:(((i-1:Nat):Int)<(f.bts.length:Int)):=by omega
     have e4:(i==0)=false:=by simp;omega
     have hn0:(f.bts[i-1].e.getD 0 .nil).S=f.bts[i-1].name:=rfl
     simp only[hw,jY,getD_map' Bt.e hi1,e1,e2,e4,decide_true,jR,jX,List.getElem?_eq_getElem hi1,Bool.false_or,jZ,ja,jS,Bool.true_and,hn0,pY]
     cases sLt f.bts[i-1].name f.bts[i].name<;>simp)
  (by simp[ar.d1,Fl.e]) f.bts.length 0 rfl
 simp only[Int.natCast_zero] at h
 rw[h]
 cases aA (btA f) 0 f.bts.length<;>simp
theorem Kq (K:List C→R):ah 2 (lim (apn 8 ar.d2) ([.l (f.svs.map Sv.e),.i (f.svs.length:Nat),.i 0]++f.e++[.l []])) K=bif aA (svA f) 0 f.svs.length then K (f.e++[.l (uN f.svs f.svs.length)]) else some (.ret [.b false]):=by
 have hl:f.svs.length<big:=by have:=hz.2.1.1;simp only[big];omega
 have h:=dA (body:=apn 8 ar.d2) (S:=fun i=>[.l (f.svs.map Sv.e),.i (f.svs.length:Nat),.i (i:Nat)]++f.e++[.l (uN f.svs i)]) (p:=svA f) (n:=f.svs.length) (b:=2) (ys:=f.e++[.l (uN f.svs f.svs.length)]) (r:=[.b false])
  (fun i hi=>by
   have hsz:=hz.2.1.2 _ (List.getElem_mem hi)
   have e3:((i:Int)<(f.svs.length:Int)):=by omega
   have hp:svA f i=(bd f.svs[i].name&&((i==0||match f.svs[i-1]? with|some q=>sLt q.name f.svs[i].name|none=>true)&&within f.svs[i].spare 0 60)):=by simp only[svA,List.getElem?_eq_getElem hi]<;>rfl
   simp only[Fl.e,jA,jB,apL,jC,jD,ar.d2,C.I_i,C.L_l,jW,jY,getD_map' Sv.e hi,w1 hi hl,e3,decide_true,jR,jX,hp,uN,List.getElem?_eq_getElem hi]
   simp only[Sv.e,jC,jD,fX _ hsz,mO,ad,jI,C.B_b,C.S_s]
   cases hn:bd f.svs[i].name with
   |false=>simp
   |true=>
    cases within f.svs[i].spare 0 60 with
    |false=>simp
    |true=>
     rcases Nat.eq_zero_or_pos i with h0|h0
     ·subst h0;simp
     ·have hi1:i-1<f.svs.length:=by omega
      have hw:w64 ((i:Int)-1)=((i-1:Nat):Int):=by rw[aQ (by omega) (by simp only[big] at hl;omega)];omega
      have e1:((i:Int)>0):=by omega
      have e2:(((i-1:Nat):Int)<(f.svs.length:Int)):=by omega
      have e4:(i==0)=false:=by simp;omega
      have hn0:(f.svs[i-1].e.getD 0 .nil).S=f.svs[i-1].name:=rfl
      simp only[hw,jY,getD_map' Sv.e hi1,e1,e2,e4,decide_true,jR,jX,List.getElem?_eq_getElem hi1,Bool.false_or,jZ,ja,jS,Bool.true_and,hn0,pY]
      cases sLt f.svs[i-1].name f.svs[i].name<;>simp)
  (by simp[ar.d2,Fl.e]) f.svs.length 0 rfl
 simp only[Int.natCast_zero,uN] at h
 rw[h]
 cases aA (svA f) 0 f.svs.length<;>simp
theorem Ko (K:List C→R):ah 4 (lim (apn 9 ar.d4) ([.l (f.cps.map Cp.e),.i (f.cps.length:Nat),.i 0]++f.e++[.l (uN f.svs f.svs.length),.l []])) K=bif aA (cpA f) 0 f.cps.length then K (f.e++[.l (sP f.cps f.cps.length)]) else some (.ret [.b false]):=by
 have hl:f.cps.length<big:=by have:=hz.2.2.1;simp only[big];omega
 have h:=dA (body:=apn 9 ar.d4) (S:=fun i=>[.l (f.cps.map Cp.e),.i (f.cps.length:Nat),.i (i:Nat)]++f.e++[.l (uN f.svs f.svs.length),.l (sP f.cps i)]) (p:=cpA f) (n:=f.cps.length) (b:=4) (ys:=f.e++[.l (sP f.cps f.cps.length)]) (r:=[.b false])
  (fun i hi=>by
   have hsz:=hz.2.2.2 _ (List.getElem_mem hi)
   have e3:((i:Int)<(f.cps.length:Int)):=by omega
   have hp:cpA f i=(ig f.cps[i]&&(f.svs.any (fun s=>sEq s.name f.cps[i].svc)&&((i==0||match f.cps[i-1]? with|some q=>sLt q.name f.cps[i].name|none=>true)&&(sEq f.cps[i].at_ (mkS [])||f.bts.any (fun b=>sEq b.name f.cps[i].at_))))):=by simp only[cpA,List.getElem?_eq_getElem hi]<;>rfl
   have hbt:=kA f f.cps[i].at_ hz.1.1
   have hco:=zM f.cps[i] hsz
   have q1:(f.cps[i].at_.toList==(bs #[]).toList)=sEq f.cps[i].at_ (mkS []):=rfl
   have hb1:decide (bIx f f.cps[i].at_<0)=!f.bts.any (fun b=>sEq b.name f.cps[i].at_):=lT _ _ _
   have hsm:=Bp f.svs f.cps[i].svc f.svs.length (Nat.le_refl _)
   rw[List.take_length] at hsm
   simp only[Fl.e,jA,jB] at hbt
   simp only[Cp.e] at hco
   simp only[Fl.e,jA,jB,apL,jC,jD,ar.d4,C.I_i,C.L_l,jW,jY,getD_map' Cp.e hi,e3,decide_true,jR,jX,hp]
   simp only[Cp.e,jC,jD,hco,hbt,ad,jI,C.B_b,C.S_s,C.I_i,q1,hb1,hsm]
   have hd3:∀(b:Bool),ar.d3 (.l (f.cps.map Cp.e)) (.i (f.cps.length:Nat)) (.i (i:Nat)) (.b b) (.b f.pack) (.l (f.bts.map Bt.e)) (.l (f.svs.map Sv.e)) (.l (f.cps.map Cp.e)) (.l (uN f.svs f.svs.length)) (.l (sP f.cps i)) (.s f.cps[i].name) (.s f.cps[i].svc) (.i f.cps[i].rank) (.i f.cps[i].born) (.i f.cps[i].room) (.i f.cps[i].hold) (.s f.cps[i].sel) (.l (f.cps[i].likes.map Lk.e)) (.i f.cps[i].apart) (.s f.cps[i].near) (.s f.cps[i].fixed) (.s f.cps[i].at_)=bif b then some (.ret [.b false]) else some (.again [.l (f.cps.map Cp.e),.i (f.cps.length:Nat),.i (i+1:Nat),.b f.pack,.l (f.bts.map Bt.e),.l (f.svs.map Sv.e),.l (f.cps.map Cp.e),.l (uN f.svs f.svs.length),.l (sP f.cps (i+1))]):=fun b=>by
    simp only[ar.d3,C.B_b,C.I_i,C.L_l,C.S_s,w1 hi hl,sP,List.getElem?_eq_getElem hi]
   cases ig f.cps[i] with
   |false=>simp[hd3]
   |true=>
    cases f.svs.any (fun s=>sEq s.name f.cps[i].svc) with
    |false=>simp[hd3]
    |true=>
     rcases Nat.eq_zero_or_pos i with h0|h0
     ·subst h0
      simp only[Int.natCast_zero] at hd3
      cases sEq f.cps[0].at_ (mkS [])<;>cases f.bts.any (fun b=>sEq b.name f.cps[0].at_)<;>simp[hd3]
     ·have hi1:i-1<f.cps.length:=by omega
      have hw:w64 ((i:Int)-1)=((i-1:Nat):Int):=by rw[aQ (by omega) (by simp only[big] at hl;omega)];omega
      have e1:((i:Int)>0):=by omega
      have e2:(((i-1:Nat):Int)<(f.cps.length:Int)):=by omega
      have e4:(i==0)=false:=by simp;omega
      have hn0:(f.cps[i-1].e.getD 0 .nil).S=f.cps[i-1].name:=rfl
      simp only[hw,jY,getD_map' Cp.e hi1,e1,e2,e4,decide_true,jR,jX,List.getElem?_eq_getElem hi1,Bool.false_or,jZ,ja,jS,Bool.true_and,hn0,pY]
      cases sLt f.cps[i-1].name f.cps[i].name<;>cases sEq f.cps[i].at_ (mkS [])<;>cases f.bts.any (fun b=>sEq b.name f.cps[i].at_)<;>simp[hd3])
  (by simp[ar.d4,Fl.e]) f.cps.length 0 rfl
 simp only[Int.natCast_zero,sP] at h
 rw[h]
 cases aA (cpA f) 0 f.cps.length<;>simp
theorem Kw (K:List C→R):ah 6 (lim (apn 8 ar.d5) ([.l (f.bts.map Bt.e),.i (f.bts.length:Nat),.i 0]++f.e++[.l (sP f.cps f.cps.length)])) K=bif aA (rV f) 0 f.bts.length then K [] else some (.ret [.b false]):=by
 have hl:f.bts.length<big:=by have:=hz.1.1;simp only[big];omega
 have hlc:f.cps.length<big:=by have:=hz.2.2.1;simp only[big];omega
 have h:=dA (body:=apn 8 ar.d5) (S:=fun i=>[.l (f.bts.map Bt.e),.i (f.bts.length:Nat),.i (i:Nat)]++f.e++[.l (sP f.cps f.cps.length)]) (p:=rV f) (n:=f.bts.length) (b:=6) (ys:=[]) (r:=[.b false])
  (fun i hi=>by
   have e3:((i:Int)<(f.bts.length:Int)):=by omega
   have hq:rV f i=(decide ((used f f.bts[i].name).1≤f.bts[i].room)&&(decide ((used f f.bts[i].name).2≤f.bts[i].hold)&&decide (eD f.cps f.bts[i].name f.cps.length≤10))):=by simp[rV,hi]
   have hu:=yw f f.bts[i].name hz
   have hmc:=xi f.cps hlc f.bts[i].name f.cps.length (Nat.le_refl _)
   have g1:decide ((used f f.bts[i].name).1>f.bts[i].room)=!decide ((used f f.bts[i].name).1≤f.bts[i].room):=by rw[←decide_not,decide_eq_decide];omega
   have g2:decide ((used f f.bts[i].name).2>f.bts[i].hold)=!decide ((used f f.bts[i].name).2≤f.bts[i].hold):=by rw[←decide_not,decide_eq_decide];omega
   have g3:decide ((eD f.cps f.bts[i].name f.cps.length:Int)>10)=!decide (eD f.cps f.bts[i].name f.cps.length≤10):=by rw[←decide_not,decide_eq_decide];omega
   simp only[Fl.e,jA,jB] at hu
   simp only[Fl.e,jA,jB,apL,jC,jD,ar.d5,C.I_i,C.L_l,jW,jY,getD_map' Bt.e hi,e3,decide_true,jR,jX,w1 hi hl]
   simp only[Bt.e,jC,jD,hu,call2,jI,C.S_s,C.I_i,hmc,g1,g2,g3,hq,Bool.not_not]
   cases decide ((used f f.bts[i].name).1≤f.bts[i].room)<;>cases decide ((used f f.bts[i].name).2≤f.bts[i].hold)<;>cases decide (eD f.cps f.bts[i].name f.cps.length≤10)<;>simp)
  (by simp[ar.d5,Fl.e]) f.bts.length 0 rfl
 simp only[Int.natCast_zero] at h
 rw[h]
 cases aA (rV f) 0 f.bts.length<;>simp
theorem pw:ar f.e=some [.b (bO f)]:=by
 have h1:=Kx hz (apn 4 ar.d9)
 have h2:=Kq hz (apn 5 ar.d8)
 have h3:=Ko hz (apn 5 ar.d7)
 have h4:=Kw hz (fun xs=>ar.d6)
 simp only[Fl.e,jA,jB] at h1 h2 h3 h4
 have g1:decide ((f.bts.length:Int)>12)=!decide (f.bts.length≤12):=by rw[←decide_not,decide_eq_decide];omega
 have g2:decide ((f.svs.length:Int)>30)=!decide (f.svs.length≤30):=by rw[←decide_not,decide_eq_decide];omega
 have g3:decide ((f.cps.length:Int)>60)=!decide (f.cps.length≤60):=by rw[←decide_not,decide_eq_decide];omega
 simp only[ar,ar.d10,Fl.e,apL,jC,jD,C.L_l,jW,g1,g2,g3,Bool.not_not,h1,bO]
 cases decide (f.bts.length≤12) with
 |false=>simp
 |true=>
 cases decide (f.svs.length≤30) with
 |false=>simp
 |true=>
 cases decide (f.cps.length≤60) with
 |false=>simp
 |true=>
 cases hb:aA (btA f) 0 f.bts.length with
 |false=>simp
 |true=>
 simp only[jR,jZ,jS,Bool.true_and,ar.d9,apL,jC,jD,C.L_l,jW,af,h2]
 cases hs:aA (svA f) 0 f.svs.length with
 |false=>simp
 |true=>
 simp only[jR,Bool.true_and,ar.d8,apL,jC,jD,C.L_l,jW,af,h3]
 cases hc:aA (cpA f) 0 f.cps.length with
 |false=>simp
 |true=>
 simp only[jR,Bool.true_and,ar.d7,apL,jC,jD,C.L_l,jW,h4]
 cases aA (rV f) 0 f.bts.length<;>simp[ar.d6]
end
end Go.Ev
namespace Go.Ev
theorem ji {α:Type} (p:α→Bool):∀(l:List α) (n:Nat),fu p l n<0∨∃i,∃h:i<l.length,fu p l n=((n+i:Nat):Int)∧p l[i]=true
 |[],n=>.inl (by simp[fu])
 |x::r,n=>by
  cases hx:p x with
  |true=>exact .inr ⟨0,by simp,by simp[fu,hx],by simpa using hx⟩
  |false=>
   rcases ji p r (n+1) with h|⟨i,h,h1,h2⟩
   ·exact .inl (by simpa [fu,hx] using h)
   ·exact .inr ⟨i+1,by simpa using h,by simp[fu,hx,h1];omega,by simpa using h2⟩
def iC (f:Fl) (g:List Str) (i:Nat):Bool:=match f.cps[(cIx f (sAt g i)).toNat]? with
 |some c=>decide (0≤cIx f (sAt g i))&&(!sEq c.at_ (mkS [])&&(i==0||sLt (sAt g (i-1)) (sAt g i)))
 |none=>false
def pf (f:Fl) (g:List Str) (i:Nat):Str:=match f.cps[(cIx f (sAt g i)).toNat]? with
 |some c=>c.svc
 |none=>mkS []
def iH (f:Fl) (g:List Str) (nm:Str):Nat→Nat
 |0=>0
 |i+1=>bif sEq (pf f g i) nm then iH f g nm i+1 else iH f g nm i
theorem AF (f:Fl) (g:List Str) (nm:Str):∀i,iH f g nm i≤i
 |0=>Nat.le_refl _
 |i+1=>by
  have:=AF f g nm i
  simp only[iH]
  cases sEq (pf f g i) nm<;>simp<;>omega
def ir (l:List Cp) (nm:Str):Nat→Nat
 |0=>0
 |i+1=>match l[i]? with
  |some c=>bif sEq c.svc nm&&sEq c.at_ (mkS []) then ir l nm i+1 else ir l nm i
  |none=>ir l nm i
theorem tc (l:List Cp) (nm:Str):∀i,ir l nm i≤i
 |0=>Nat.le_refl _
 |i+1=>by
  have:=tc l nm i
  simp only[ir]
  split
  ·rename_i c _
   cases sEq c.svc nm&&sEq c.at_ (mkS [])<;>simp<;>omega
  ·omega
theorem B4 (b:Bool):zh [.b b]=some [.i (bif b then 1 else 0)]:=by cases b<;>rfl
def tf (f:Fl) (g:List Str) (i:Nat):Bool:=match f.svs[i]? with
 |some s=>iH f g s.name g.length==0||decide ((iH f g s.name g.length:Int)≤s.spare-ir f.cps s.name f.cps.length)
 |none=>true
def lq (f:Fl) (g:List Str):Bool:=aA (iC f g) 0 g.length&&aA (tf f g) 0 f.svs.length
section
variable {f:Fl} {g:List Str} (hz:f.Sz 1048576) (hg:tJ 1048576 g)
include hz hg
theorem Ku (K:List C→R):ah 0 (lim (apn 6 aR.d1) ([.l (g.map sE),.i 0]++f.e)) K=bif aA (iC f g) 0 g.length then K (.l (g.map sE)::f.e) else some (.ret [.b false]):=by
 have hl:g.length<big:=by have:=hg.1;simp only[big];omega
 have h:=dA (body:=apn 6 aR.d1) (S:=fun i=>[.l (g.map sE),.i (i:Nat)]++f.e) (p:=iC f g) (n:=g.length) (b:=0) (ys:=.l (g.map sE)::f.e) (r:=[.b false])
  (fun i hi=>by
   have e3:((i:Int)<(g.length:Int)):=by omega
   have hc:=fj f (sAt g i) hz.2.2.1
   simp only[Fl.e,jA,jB] at hc
   simp only[Fl.e,jA,jB,apL,jC,jD,aR.d1,C.I_i,C.L_l,jW,jY,getD_map' sE hi,←dX hi,e3,decide_true,jR,jX,w1 hi hl]
   simp only[sE,jC,hc,ad,jI,C.I_i,C.S_s]
   rcases ji (fun x:Cp=>sEq x.name (sAt g i)) f.cps 0 with h|⟨k,hk,h1,h2⟩
   ·have h:cIx f (sAt g i)<0:=h
    have:iC f g i=false:=by
     unfold iC
     have h':decide (0≤cIx f (sAt g i))=false:=by simp;omega
     split<;>simp[h']
    simp[h,this]
   ·have h1:cIx f (sAt g i)=(k:Nat):=by rw[←Nat.zero_add k];exact h1
    have e5:¬((k:Int)<0):=by omega
    have e6:((k:Int)<(f.cps.length:Int)):=by omega
    have hp:iC f g i=(!sEq f.cps[k].at_ (mkS [])&&(i==0||sLt (sAt g (i-1)) (sAt g i))):=by
     unfold iC
     rw[h1,jY,List.getElem?_eq_getElem hk]
     simp
    have q1:((f.cps[k].e.getD 11 .nil).S.toList==(bs #[]).toList)=sEq f.cps[k].at_ (mkS []):=rfl
    simp only[h1,e5,e6,decide_true,decide_false,jY,getD_map' Cp.e hk,q1,ja,jR,jS,jX,hp]
    cases sEq f.cps[k].at_ (mkS []) with
    |true=>simp
    |false=>
     rcases Nat.eq_zero_or_pos i with h0|h0
     ·subst h0;simp
     ·have hi1:i-1<g.length:=by omega
      have hw:w64 ((i:Int)-1)=((i-1:Nat):Int):=by rw[aQ (by omega) (by simp only[big] at hl;omega)];omega
      have e1:((i:Int)>0):=by omega
      have e2:(((i-1:Nat):Int)<(g.length:Int)):=by omega
      have e4:(i==0)=false:=by simp;omega
      simp only[hw,jY,getD_map' sE hi1,←dX hi1,e1,e2,e4,decide_true,jR,jX,Bool.false_or,jZ,ja,jS,Bool.true_and,sE,jC,C.S_s]
      show (bif (!sLt (sAt g (i-1)) (sAt g i)) then _ else _)=_
      cases sLt (sAt g (i-1)) (sAt g i)<;>simp)
  (by simp[aR.d1,Fl.e]) g.length 0 rfl
 simp only[Int.natCast_zero] at h
 rw[h]
 cases aA (iC f g) 0 g.length<;>simp
theorem D6 (h:aA (iC f g) 0 g.length=true) {i:Nat} (hi:i<g.length):∃k,∃hk:k<f.cps.length,cIx f (sAt g i)=(k:Nat)∧pf f g i=f.cps[k].svc:=by
 have:=(bX _ _ _).1 h i (Nat.zero_le _) (by omega)
 rcases ji (fun x:Cp=>sEq x.name (sAt g i)) f.cps 0 with h|⟨k,hk,h1,h2⟩
 ·have h:cIx f (sAt g i)<0:=h
  have h':decide (0≤cIx f (sAt g i))=false:=by simp;omega
  unfold iC at this
  split at this<;>simp[h'] at this
 ·have h1:cIx f (sAt g i)=(k:Nat):=by rw[←Nat.zero_add k];exact h1
  exact ⟨k,hk,h1,by unfold pf;rw[h1,jY,List.getElem?_eq_getElem hk]⟩
theorem Kl (ha:aA (iC f g) 0 g.length=true) (hs:∀s,s∈f.svs→0≤s.spare∧s.spare≤60) (K:List C→R):ah 2 (lim (apn 6 aR.d6) ([.l (g.map sE),.i 0]++f.e)) K=bif aA (tf f g) 0 f.svs.length then K [] else some (.ret [.b false]):=by
 have hl:f.svs.length<big:=by have:=hz.2.1.1;simp only[big];omega
 have hlc:f.cps.length<big:=by have:=hz.2.2.1;simp only[big];omega
 have hlg:g.length<big:=by have:=hg.1;simp only[big];omega
 have h:=dA (body:=apn 6 aR.d6) (S:=fun i=>[.l (g.map sE),.i (i:Nat)]++f.e) (p:=tf f g) (n:=f.svs.length) (b:=2) (ys:=[]) (r:=[.b false])
  (fun i hi=>by
   have e3:((i:Int)<(f.svs.length:Int)):=by omega
   have hsp:=hs _ (List.getElem_mem hi)
   have hp:tf f g i=(iH f g f.svs[i].name g.length==0||decide ((iH f g f.svs[i].name g.length:Int)≤f.svs[i].spare-ir f.cps f.svs[i].name f.cps.length)):=by simp only[tf,List.getElem?_eq_getElem hi]
   have L1:=bH (body:=apn 9 aR.d2) (S:=fun k=>[.l (g.map sE),.i (i:Nat),C.i (f.svs[i].spare-((ir f.cps f.svs[i].name k:Nat):Int)),.i 0,.i (k:Nat)]++f.e) (n:=f.cps.length) (b:=4) (ys:=[.l (g.map sE),.i (i:Nat),C.i (f.svs[i].spare-((ir f.cps f.svs[i].name f.cps.length:Nat):Int)),.i 0]++f.e)
    (fun k hk=>by
     have e5:((k:Int)<(f.cps.length:Int)):=by omega
     have hwl:=tc f.cps f.svs[i].name k
     have hw:w64 (f.svs[i].spare-(ir f.cps f.svs[i].name k:Int)-1)=f.svs[i].spare-((ir f.cps f.svs[i].name k+1:Nat):Int):=by simp only[big] at hlc;rw[aQ (by omega) (by omega)];omega
     simp only[Fl.e,jA,jB,apL,jC,jD,aR.d2,C.I_i,C.L_l,jW,jY,getD_map' Cp.e hk,getD_map' Sv.e hi,e3,e5,decide_true,jR,jX,w1 hk hlc,ir,List.getElem?_eq_getElem hk,hw]
     simp only[Cp.e,Sv.e,jC,jD,C.S_s]
     show (bif sEq f.cps[k].svc f.svs[i].name then (bif sEq f.cps[k].at_ (mkS []) then _ else _) else _)=_
     cases sEq f.cps[k].svc f.svs[i].name<;>cases sEq f.cps[k].at_ (mkS [])<;>simp)
    (by simp[aR.d2,Fl.e]) f.cps.length 0 rfl
   have L2:=bH (body:=apn 9 aR.d3) (S:=fun k=>[.l (g.map sE),.i (i:Nat),C.i (f.svs[i].spare-((ir f.cps f.svs[i].name f.cps.length:Nat):Int)),.i (iH f g f.svs[i].name k:Nat),.i (k:Nat)]++f.e) (n:=g.length) (b:=6) (ys:=[.l (g.map sE),.i (i:Nat),C.i (f.svs[i].spare-((ir f.cps f.svs[i].name f.cps.length:Nat):Int)),.i (iH f g f.svs[i].name g.length:Nat)]++f.e)
    (fun k hk=>by
     have e5:((k:Int)<(g.length:Int)):=by omega
     obtain ⟨j,hj,h1,h2⟩:=D6 hz hg ha hk
     have hc:=fj f (sAt g k) hz.2.2.1
     simp only[Fl.e,jA,jB] at hc
     have e6:((j:Int)<(f.cps.length:Int)):=by omega
     have hw:=tl (n:=iH f g f.svs[i].name k) (by have:=AF f g f.svs[i].name k;omega)
     simp only[Fl.e,jA,jB,apL,jC,jD,aR.d3,C.I_i,C.L_l,jW,jY,getD_map' sE hk,←dX hk,e3,e5,decide_true,jR,jX,w1 hk hlg,iH,hw,h2]
     simp only[sE,jC,hc,ad,jI,C.I_i,h1,e6,decide_true,jR,jX,jY,getD_map' Cp.e hj,getD_map' Sv.e hi]
     simp only[Cp.e,Sv.e,jC,jD,C.S_s]
     show (bif sEq f.cps[j].svc f.svs[i].name then _ else _)=_
     cases sEq f.cps[j].svc f.svs[i].name<;>simp)
    (by simp[aR.d3,Fl.e]) g.length 0 rfl
   have e7:f.svs[i].spare-((0:Nat):Int)=f.svs[i].spare:=by omega
   simp only[Fl.e,jA,jB,Int.natCast_zero,ir,iH,Int.sub_zero,e7] at L1 L2
   simp only[Fl.e,jA,jB,apL,jC,jD,aR.d6,C.I_i,C.L_l,jW,jY,getD_map' Sv.e hi,e3,decide_true,jR,jX]
   have hsp0:f.svs[i].e.getD 1 .nil=.i f.svs[i].spare:=rfl
   rw[hsp0,L1]
   simp only[au,apL,jC,jD,aR.d5]
   rw[L2]
   simp only[au,apL,jC,jD,aR.d4,C.I_i,w1 hi hl,hp]
   by_cases g0:iH f g f.svs[i].name g.length=0
   ·simp[g0]
   ·have e8:((iH f g f.svs[i].name g.length:Int)>0):=by omega
    have e9:(iH f g f.svs[i].name g.length==0)=false:=by simp[g0]
    have e10:decide ((iH f g f.svs[i].name g.length:Int)>f.svs[i].spare-(ir f.cps f.svs[i].name f.cps.length:Int))=!decide ((iH f g f.svs[i].name g.length:Int)≤f.svs[i].spare-(ir f.cps f.svs[i].name f.cps.length:Int)):=by rw[←decide_not,decide_eq_decide];omega
    simp only[e8,e9,e10,decide_true,jR,Bool.false_or]
    cases decide ((iH f g f.svs[i].name g.length:Int)≤f.svs[i].spare-(ir f.cps f.svs[i].name f.cps.length:Int))<;>simp)
  (by simp[aR.d6,Fl.e]) f.svs.length 0 rfl
 simp only[Int.natCast_zero] at h
 rw[h]
 cases aA (tf f g) 0 f.svs.length<;>simp
theorem Gp (h:aA (svA f) 0 f.svs.length=true):∀s,s∈f.svs→0≤s.spare∧s.spare≤60:=by
 intro s hs
 obtain ⟨i,hi,rfl⟩:=List.getElem_of_mem hs
 have:=(bX _ _ _).1 h i (Nat.zero_le _) (by omega)
 simp only[svA,List.getElem?_eq_getElem hi,Bool.and_eq_true,within,decide_eq_true_eq] at this
 exact this.2.2
theorem xF (h:bO f=true):aA (svA f) 0 f.svs.length=true:=by
 simp only[bO,Bool.and_eq_true] at h
 exact h.2.2.2.1
theorem sw (h:bO f=true):aR (f.e++[.l (g.map sE)])=some [.b (lq f g)]:=by
 have h1:=Ku hz hg (apn 5 aR.d8)
 simp only[Fl.e,jA,jB] at h1
 simp only[aR,aR.d9,Fl.e,jA,jB,apL,jC,jD,h1,lq]
 cases ha:aA (iC f g) 0 g.length with
 |false=>simp
 |true=>
  have h2:=Kl hz hg ha (Gp hz hg (xF hz hg h)) (fun xs=>aR.d7)
  simp only[Fl.e,jA,jB] at h2
  simp only[jR,Bool.true_and,apL,jC,jD,aR.d8,h2]
  cases aA (tf f g) 0 f.svs.length<;>simp[aR.d7]
def uG (f:Fl) (g:List Str):Nat→List (List C)
 |0=>[]
 |i+1=>ln (pf f g i) (.i (w64 ((jr (.i 0) (pf f g i) (uG f g i)).I+1))) (uG f g i)
omit hz in
theorem xo (nm:Str):∀i,i≤g.length→jr (.i 0) nm (uG f g i)=.i (iH f g nm i:Nat)
 |0,_=>rfl
 |i+1,h=>by
  have ih:=xo nm i (by omega)
  have ih2:=xo (pf f g i) i (by omega)
  have hlg:g.length<big:=by have:=hg.1;simp only[big];omega
  rw[uG,iH,nX,ih,ih2,jz]
  have hw:=tl (n:=iH f g (pf f g i) i) (by have:=AF f g (pf f g i) i;omega)
  cases hq:sEq (pf f g i) nm with
  |true=>
   have:=(cF _ _).1 hq
   subst this
   simp only[jR,C.I_i,hw]
  |false=>rfl
theorem Km (K:List C→R):ah 0 (lim (apn 9 bw.d1) ([.l (g.map sE),.l (g.map sE),.i (g.length:Nat),.i 0]++f.e++[.l []])) K=bif aA (iC f g) 0 g.length then K (f.e++[.l (uG f g g.length)]) else some (.ret [.b false]):=by
 have hl:g.length<big:=by have:=hg.1;simp only[big];omega
 have h:=dA (body:=apn 9 bw.d1) (S:=fun i=>[.l (g.map sE),.l (g.map sE),.i (g.length:Nat),.i (i:Nat)]++f.e++[.l (uG f g i)]) (p:=iC f g) (n:=g.length) (b:=0) (ys:=f.e++[.l (uG f g g.length)]) (r:=[.b false])
  (fun i hi=>by
   have e3:((i:Int)<(g.length:Int)):=by omega
   have hc:=o6 f (sAt g i) hz.2.2.1
   simp only[Fl.e,jA,jB] at hc
   simp only[Fl.e,jA,jB,apL,jC,jD,bw.d1,C.I_i,C.L_l,jW,jY,getD_map' sE hi,←dX hi,e3,decide_true,jR,jX,w1 hi hl]
   simp only[sE,jC,hc,ad,jI,C.I_i,C.S_s]
   rcases ji (fun x:Cp=>sEq x.name (sAt g i)) f.cps 0 with h|⟨k,hk,h1,h2⟩
   ·have h:cIx f (sAt g i)<0:=h
    have:iC f g i=false:=by
     unfold iC
     have h':decide (0≤cIx f (sAt g i))=false:=by simp;omega
     split<;>simp[h']
    simp[h,this]
   ·have h1:cIx f (sAt g i)=(k:Nat):=by rw[←Nat.zero_add k];exact h1
    have e5:¬((k:Int)<0):=by omega
    have e6:((k:Int)<(f.cps.length:Int)):=by omega
    have hp:iC f g i=(!sEq f.cps[k].at_ (mkS [])&&(i==0||sLt (sAt g (i-1)) (sAt g i))):=by
     unfold iC
     rw[h1,jY,List.getElem?_eq_getElem hk]
     simp
    have hgs:pf f g i=f.cps[k].svc:=by unfold pf;rw[h1,jY,List.getElem?_eq_getElem hk]
    have q1:((f.cps[k].e.getD 11 .nil).S.toList==(bs #[]).toList)=sEq f.cps[k].at_ (mkS []):=rfl
    have q2:(f.cps[k].e.getD 1 .nil).S=f.cps[k].svc:=rfl
    simp only[h1,e5,e6,decide_true,decide_false,jY,getD_map' Cp.e hk,q1,q2,ja,jR,jS,jX,hp,uG,hgs]
    cases sEq f.cps[k].at_ (mkS []) with
    |true=>simp
    |false=>
     rcases Nat.eq_zero_or_pos i with h0|h0
     ·subst h0;simp
     ·have hi1:i-1<g.length:=by omega
      have hw:w64 ((i:Int)-1)=((i-1:Nat):Int):=by rw[aQ (by omega) (by simp only[big] at hl;omega)];omega
      have e1:((i:Int)>0):=by omega
      have e2:(((i-1:Nat):Int)<(g.length:Int)):=by omega
      have e4:(i==0)=false:=by simp;omega
      simp only[hw,jY,getD_map' sE hi1,←dX hi1,e1,e2,e4,decide_true,jR,jX,Bool.false_or,jZ,ja,jS,Bool.true_and,sE,jC,C.S_s,pY]
      cases sLt (sAt g (i-1)) (sAt g i)<;>simp)
  (by simp[bw.d1,Fl.e]) g.length 0 rfl
 simp only[Int.natCast_zero,uG] at h
 rw[h]
 cases aA (iC f g) 0 g.length<;>simp
theorem Kh (hs:∀s,s∈f.svs→0≤s.spare∧s.spare≤60) (K:List C→R):ah 2 (lim (apn 8 bw.d5) ([.l (f.svs.map Sv.e),.i (f.svs.length:Nat),.i 0]++f.e++[.l (uG f g g.length)])) K=bif aA (tf f g) 0 f.svs.length then K [] else some (.ret [.b false]):=by
 have hl:f.svs.length<big:=by have:=hz.2.1.1;simp only[big];omega
 have hlc:f.cps.length<big:=by have:=hz.2.2.1;simp only[big];omega
 have h:=dA (body:=apn 8 bw.d5) (S:=fun i=>[.l (f.svs.map Sv.e),.i (f.svs.length:Nat),.i (i:Nat)]++f.e++[.l (uG f g g.length)]) (p:=tf f g) (n:=f.svs.length) (b:=2) (ys:=[]) (r:=[.b false])
  (fun i hi=>by
   have e3:((i:Int)<(f.svs.length:Int)):=by omega
   have hsp:=hs _ (List.getElem_mem hi)
   have hp:tf f g i=(iH f g f.svs[i].name g.length==0||decide ((iH f g f.svs[i].name g.length:Int)≤f.svs[i].spare-ir f.cps f.svs[i].name f.cps.length)):=by simp only[tf,List.getElem?_eq_getElem hi]
   have L1:=bH (body:=apn 14 bw.d2) (S:=fun k=>[C.i ((ir f.cps f.svs[i].name k:Nat):Int),.l (f.svs.map Sv.e),.i (f.svs.length:Nat),.i (i:Nat),.l (f.cps.map Cp.e),.i (f.cps.length:Nat),.i (k:Nat)]++f.e++[.l (uG f g g.length),C.s f.svs[i].name,C.i f.svs[i].spare]) (n:=f.cps.length) (b:=4) (ys:=[.i (ir f.cps f.svs[i].name f.cps.length:Nat),.l (f.svs.map Sv.e),.i (f.svs.length:Nat),.i (i:Nat)]++f.e++[.l (uG f g g.length),C.s f.svs[i].name,C.i f.svs[i].spare])
    (fun k hk=>by
     have e5:((k:Int)<(f.cps.length:Int)):=by omega
     have hw:=tl (n:=ir f.cps f.svs[i].name k) (by have:=tc f.cps f.svs[i].name k;omega)
     have hw0:w64 ((ir f.cps f.svs[i].name k:Nat):Int)=(ir f.cps f.svs[i].name k:Nat):=by have:=tc f.cps f.svs[i].name k;simp only[big] at hlc;rw[aQ (by omega) (by omega)]
     simp only[Fl.e,jA,jB,apL,jC,jD,bw.d2,C.I_i,C.L_l,C.S_s,jW,jY,getD_map' Cp.e hk,e5,decide_true,jR,jX,w1 hk hlc,ir,List.getElem?_eq_getElem hk]
     simp only[Cp.e,jC,jD,C.S_s,B4,ad,jI,C.I_i]
     have q1:(f.cps[k].svc.toList==f.svs[i].name.toList)=sEq f.cps[k].svc f.svs[i].name:=rfl
     have q2:(f.cps[k].at_.toList==(bs #[]).toList)=sEq f.cps[k].at_ (mkS []):=rfl
     simp only[q1,q2]
     cases sEq f.cps[k].svc f.svs[i].name<;>cases sEq f.cps[k].at_ (mkS [])<;>simp[hw,hw0,B4])
    (by simp[bw.d2,Fl.e]) f.cps.length 0 rfl
   simp only[Fl.e,jA,jB,Int.natCast_zero,ir] at L1
   have hn0:f.svs[i].e.getD 0 .nil=.s f.svs[i].name:=rfl
   have hn1:f.svs[i].e.getD 1 .nil=.i f.svs[i].spare:=rfl
   have hmg:=xo (f:=f) hg f.svs[i].name g.length (Nat.le_refl _)
   have hwl:=tc f.cps f.svs[i].name f.cps.length
   have hw:w64 (f.svs[i].spare-(ir f.cps f.svs[i].name f.cps.length:Int))=f.svs[i].spare-(ir f.cps f.svs[i].name f.cps.length:Int):=by simp only[big] at hlc;rw[aQ (by omega) (by omega)]
   simp only[Fl.e,jA,jB,apL,jC,jD,bw.d5,C.I_i,C.L_l,jW,jY,getD_map' Sv.e hi,e3,decide_true,jR,jX,hn0,hn1,C.S_s,hmg,hp]
   by_cases g0:iH f g f.svs[i].name g.length=0
   ·have e8:(((iH f g f.svs[i].name g.length:Nat):Int)==0)=true:=by simp[g0]
    simp only[e8,jR]
    simp[bw.d4,w1 hi hl,g0]
   ·have e8:(((iH f g f.svs[i].name g.length:Nat):Int)==0)=false:=by rw[beq_eq_false_iff_ne];omega
    have e9:(iH f g f.svs[i].name g.length==0)=false:=by simp[g0]
    have e10:decide ((iH f g f.svs[i].name g.length:Int)>f.svs[i].spare-(ir f.cps f.svs[i].name f.cps.length:Int))=!decide ((iH f g f.svs[i].name g.length:Int)≤f.svs[i].spare-(ir f.cps f.svs[i].name f.cps.length:Int)):=by rw[←decide_not,decide_eq_decide];omega
    simp only[e8,jS,L1,au,apL,jC,jD,bw.d3,C.I_i,C.L_l,C.S_s,hmg,hw,e9,e10,Bool.false_or]
    cases decide ((iH f g f.svs[i].name g.length:Int)≤f.svs[i].spare-(ir f.cps f.svs[i].name f.cps.length:Int))<;>simp[bw.d4,w1 hi hl])
  (by simp[bw.d5,Fl.e]) f.svs.length 0 rfl
 simp only[Int.natCast_zero] at h
 rw[h]
 cases aA (tf f g) 0 f.svs.length<;>simp
theorem CK (h:bO f=true):bw (f.e++[.l (g.map sE)])=some [.b (lq f g)]:=by
 have h1:=Km hz hg (apn 5 bw.d7)
 have h2:=Kh hz hg (Gp hz hg (xF hz hg h)) (fun xs=>bw.d6)
 simp only[Fl.e,jA,jB] at h1 h2
 simp only[bw,bw.d8,Fl.e,jA,jB,apL,jC,jD,C.L_l,jW,af,h1,lq]
 cases ha:aA (iC f g) 0 g.length with
 |false=>simp
 |true=>
  simp only[jR,Bool.true_and,apL,jC,jD,bw.d7,C.L_l,jW,h2]
  cases aA (tf f g) 0 f.svs.length<;>simp[bw.d6]
end
end Go.Ev
namespace Go.Ev
def nG (k:Nat) (n v:Tok) (m:Str):Bool:=rb m&&(sEq (gf m) (mkS n)&&(k==1||sEq (hP m) (mkS v)))
def Tr.meets (ms:List Str):Tr→Bool
 |.lf k n v=>k==0||ms.any (nG k n v)
 |.un t=>!t.meets ms
 |.bn k a b=>bif k==4 then a.meets ms&&b.meets ms else a.meets ms||b.meets ms
def Tr.Ok (t:Tr):Prop:=t.Wf∨t=.lf 0 [] []
theorem Cb (q:Nat→Bool):∀(k i:Nat),(!aA (fun j=>!q j) i k)=true↔∃j,i≤j∧j<i+k∧q j=true:=by
 intro k i
 rw[Bool.not_eq_true',←Bool.not_eq_true,bX]
 constructor
 ·intro h
  apply Classical.byContradiction
  intro hn
  exact h fun j h1 h2=>by
   cases hq:q j with
   |false=>rfl
   |true=>exact absurd ⟨j,h1,h2,hq⟩ hn
 ·rintro ⟨j,h1,h2,h3⟩ h
  have:=h j h1 h2
  rw[h3] at this;simp at this
theorem CC (p:Str→Bool) (ms:List Str):aA (fun j=>!p (sAt ms j)) 0 ms.length=!ms.any p:=by
 rw[←Bool.not_not (b:=aA _ _ _)]
 congr 1
 rw[Bool.eq_iff_iff,Cb,List.any_eq_true]
 constructor
 ·rintro ⟨j,_,h1,h2⟩
  have hj:j<ms.length:=by omega
  rw[dX hj] at h2
  exact ⟨_,List.getElem_mem hj,h2⟩
 ·rintro ⟨x,hx,h⟩
  obtain ⟨j,hj,rfl⟩:=List.getElem_of_mem hx
  exact ⟨j,Nat.zero_le _,by omega,by rw[dX hj];exact h⟩
section
variable {ms:List Str} (hz:tJ 1048576 ms)
include hz
theorem Jh (G:List C→Option (List C)) (k:Nat) (n v:Tok) (c:C) (K:List C→R):ah 1 (lim (apn 6 (bj.d2 G)) [.l (ms.map sE),.i 0,.i (k:Nat),.s (mkS n),.s (mkS v),c]) K=bif ms.any (nG k n v) then some (.ret [.b true]) else K []:=by
 have hl:ms.length<big:=by have:=hz.1;simp only[big];omega
 have h:=dA (body:=apn 6 (bj.d2 G)) (S:=fun i=>[.l (ms.map sE),.i (i:Nat),.i (k:Nat),.s (mkS n),.s (mkS v),c]) (p:=fun j=>!nG k n v (sAt ms j)) (n:=ms.length) (b:=1) (ys:=[]) (r:=[.b true])
  (fun i hi=>by
   have hsz:(sAt ms i).size≤1048576:=by rw[dX hi];exact hz.2 _ (List.getElem_mem hi)
   have e3:((i:Int)<(ms.length:Int)):=by omega
   have q1:((gf (sAt ms i)).toList==(mkS n).toList)=sEq (gf (sAt ms i)) (mkS n):=rfl
   have q2:((hP (sAt ms i)).toList==(mkS v).toList)=sEq (hP (sAt ms i)) (mkS v):=rfl
   have q3:(((k:Nat):Int)==1)=(k==1):=by rw[Bool.eq_iff_iff,beq_iff_eq,beq_iff_eq];omega
   simp only[apL,jC,jD,bj.d2,bj.d1,C.I_i,C.L_l,jW,jY,getD_map' sE hi,←dX hi,w1 hi hl,e3,decide_true,jR,jX]
   simp only[sE,jC,pU _ hsz,call3,jI,C.S_s,jD,C.B_b,q1,q2,q3,nG]
   cases rb (sAt ms i)<;>cases sEq (gf (sAt ms i)) (mkS n)<;>cases k==1<;>cases sEq (hP (sAt ms i)) (mkS v)<;>simp[bj.d1,w1 hi hl])
  (by simp[bj.d2]) ms.length 0 rfl
 simp only[Int.natCast_zero,CC] at h
 rw[h]
 cases ms.any (nG k n v)<;>simp
theorem Jl (G:List C→Option (List C)) (k:Nat) (n v:Tok) (l:C) (K:List C→R):ah 1 (lim (apn 4 (ax.d2 G)) [.p [.i (k:Nat),.s (mkS n),.s (mkS v),l],.l (ms.map sE),.i (ms.length:Nat),.i 0]) K=bif ms.any (nG k n v) then some (.ret [.b true]) else K []:=by
 have hl:ms.length<big:=by have:=hz.1;simp only[big];omega
 have h:=dA (body:=apn 4 (ax.d2 G)) (S:=fun i=>[.p [.i (k:Nat),.s (mkS n),.s (mkS v),l],.l (ms.map sE),.i (ms.length:Nat),.i (i:Nat)]) (p:=fun j=>!nG k n v (sAt ms j)) (n:=ms.length) (b:=1) (ys:=[]) (r:=[.b true])
  (fun i hi=>by
   have hsz:(sAt ms i).size≤1048576:=by rw[dX hi];exact hz.2 _ (List.getElem_mem hi)
   have e3:((i:Int)<(ms.length:Int)):=by omega
   have q1:((gf (sAt ms i)).toList==(mkS n).toList)=sEq (gf (sAt ms i)) (mkS n):=rfl
   have q2:((hP (sAt ms i)).toList==(mkS v).toList)=sEq (hP (sAt ms i)) (mkS v):=rfl
   have q3:(((k:Nat):Int)==1)=(k==1):=by rw[Bool.eq_iff_iff,beq_iff_eq,beq_iff_eq];omega
   simp only[apL,jC,jD,ax.d2,ax.d1,C.I_i,C.L_l,jW,jY,getD_map' sE hi,←dX hi,w1 hi hl,e3,decide_true,jR,jX]
   simp only[sE,jC,yj _ hsz,call3,jI,C.S_s,jD,C.B_b,C.uU,C.P_p,C.I_i,jR,q1,q2,q3,nG]
   cases rb (sAt ms i)<;>cases sEq (gf (sAt ms i)) (mkS n)<;>cases k==1<;>cases sEq (hP (sAt ms i)) (mkS v)<;>simp[ax.d1,w1 hi hl])
  (by simp[ax.d2]) ms.length 0 rfl
 simp only[Int.natCast_zero,CC] at h
 rw[h]
 cases ms.any (nG k n v)<;>simp
theorem vY:∀(k:Nat) (t:Tr),t.depth<k→t.Ok→ax.g k 0 [t.enc,.l (ms.map sE)]=some [.b (t.meets ms)]
 |0,t,h,_=>by omega
 |k+1,t,h,hok=>by
  have hs:∀x,ax.g (k+1) 0 x=ax.step (ax.g k 0) x:=fun _=>rfl
  rw[hs]
  simp only[ax.step,ax.d5,apL,jC,jD]
  cases t with
  |lf kd n v=>
   have hlf:=Jl hz (ax.g k 0) kd n v (.l []) (fun xs=>ax.d3 (ax.g k 0))
   have hk:kd=0∨kd=1∨kd=2:=by
    rcases hok with h|h
    ·rcases h.2 with ⟨h,_⟩|⟨h,_⟩
     ·exact .inr (.inl h)
     ·exact .inr (.inr h)
    ·simp only[Tr.lf.injEq] at h;exact .inl h.1
   simp only[Tr.enc,C.uU,jR,C.P_p,jC,C.I_i,Tr.meets]
   rcases hk with rfl|rfl|rfl
   ·simp[ax.d4]
   ·simp only[ax.d4,jJ,apL,jC,jD,C.B_b,C.L_l,jW,hlf,show (((1:Nat):Int)==1)=true from rfl,jR]
    cases ms.any (nG 1 n v)<;>simp[ax.d3]
   ·simp only[ax.d4,jJ,apL,jC,jD,C.B_b,C.L_l,jW,hlf,show (((2:Nat):Int)==1)=false from rfl,show (((2:Nat):Int)==2)=true from rfl,jR,jS]
    cases ms.any (nG 2 n v)<;>simp[ax.d3]
  |un t=>
   simp only[Tr.depth] at h
   have hw:t.Ok:=by
    rcases hok with h|h
    ·exact .inl h
    ·simp at h
   have ih:=vY k t (by omega) hw
   simp[Tr.enc,ax.d4,ih,ad,Tr.meets]
  |bn kd a b=>
   simp only[Tr.depth] at h
   have hw:(kd=4∨kd=5)∧a.Ok∧b.Ok:=by
    rcases hok with h|h
    ·exact ⟨h.1,.inl h.2.1,.inl h.2.2⟩
    ·simp at h
   have iha:=vY k a (by omega) hw.2.1
   have ihb:=vY k b (by omega) hw.2.2
   rcases hw.1 with rfl|rfl
   ·cases ha:a.meets ms<;>simp[Tr.enc,ax.d4,iha,ihb,ad,Tr.meets,ha]
   ·cases ha:a.meets ms<;>simp[Tr.enc,ax.d4,iha,ihb,ad,Tr.meets,ha]
theorem wg {N K:List (List C)} (hN:N.length≤1048576) (hK:K.length≤1048576):∀(k:Nat) (t:Tr) (o:Nat) (r r':List (List C)),t.depth<k→t.Ok→N.drop o=t.flat++r→K.drop o=t.kids o++r'→
  bj.g k 0 [.l N,.l K,.i (o+t.sz-1:Nat),.l (ms.map sE)]=some [.b (t.meets ms)]
 |0,t,o,r,r',h,_,_,_=>by omega
 |k+1,t,o,r,r',h,hok,hd,hd'=>by
  have hs:∀x,bj.g (k+1) 0 x=bj.step (bj.g k 0) x:=fun _=>rfl
  rw[hs]
  simp only[bj.step,bj.d4,apL,jC,jD,C.I_i,C.L_l,jY]
  cases t with
  |lf kd n v=>
   obtain ⟨h1,h2,_⟩:=drop_cons (show N.drop o=node kd n v 0::r from hd)
   have hlf:=Jh hz (bj.g k 0) kd n v (.i ((0:Nat):Int)) (fun xs=>bj.d3 (bj.g k 0))
   have e:o+(Tr.lf kd n v).sz-1=o:=by simp[Tr.sz]
   have hg:N.getD o []=node kd n v 0:=by rw[List.getD_eq_getElem?_getD,List.getElem?_eq_getElem h1,h2];rfl
   have e1:((o:Int)<(N.length:Int)):=by omega
   have hk:kd=0∨kd=1∨kd=2:=by
    rcases hok with h|h
    ·rcases h.2 with ⟨h,_⟩|⟨h,_⟩
     ·exact .inr (.inl h)
     ·exact .inr (.inr h)
    ·simp only[Tr.lf.injEq] at h;exact .inl h.1
   simp only[e,hg,node,jC,jD,C.I_i,e1,decide_true,jR,jX,Tr.meets]
   rcases hk with rfl|rfl|rfl
   ·simp
   ·simp only[show (((1:Nat):Int)==0)=false from rfl,show (((1:Nat):Int)==3)=false from rfl,show (((1:Nat):Int)==4)=false from rfl,show (((1:Nat):Int)==5)=false from rfl,jS,hlf]
    cases ms.any (nG 1 n v)<;>simp[bj.d3]
   ·simp only[show (((2:Nat):Int)==0)=false from rfl,show (((2:Nat):Int)==3)=false from rfl,show (((2:Nat):Int)==4)=false from rfl,show (((2:Nat):Int)==5)=false from rfl,jS,hlf]
    cases ms.any (nG 2 n v)<;>simp[bj.d3]
  |un t=>
   simp only[Tr.depth] at h
   have hw:t.Ok:=by
    rcases hok with h|h
    ·exact .inl h
    ·simp at h
   have hn:N.drop o=t.flat++(node 3 [] [] 1::r):=by rw[hd];simp[Tr.flat]
   have hk:K.drop o=t.kids o++([.l [[.i (o+t.sz-1:Nat)]]]::r'):=by rw[hd'];simp[Tr.kids]
   have ih:=wg hN hK k t o _ _ (by omega) hw hn hk
   obtain ⟨h1,h2⟩:=iX hn
   obtain ⟨h3,h4⟩:=iX hk
   rw[t.ck] at h1
   rw[t.cO] at h3
   have h2:N[o+t.sz]=node 3 [] [] 1:=by simp only[t.ck] at h2;exact h2
   have h4:K[o+t.sz]=[.l [[.i (o+t.sz-1:Nat)]]]:=by simp only[t.cO] at h4;exact h4
   have e:o+(Tr.un t).sz-1=o+t.sz:=by simp[Tr.sz]
   have hg:N.getD (o+t.sz) []=node 3 [] [] 1:=by rw[List.getD_eq_getElem?_getD,List.getElem?_eq_getElem h1,h2];rfl
   have hg':K.getD (o+t.sz) []=[.l [[.i (o+t.sz-1:Nat)]]]:=by rw[List.getD_eq_getElem?_getD,List.getElem?_eq_getElem h3,h4];rfl
   have e1:(((o+t.sz:Nat):Int)<(N.length:Int)):=by omega
   have e2:(((o+t.sz:Nat):Int)<(K.length:Int)):=by omega
   simp only[e,hg,hg',node,jC,jD,C.I_i,C.L_l,e1,e2,decide_true,jR,jX,ih,ad,jI,C.B_b,Tr.meets]
   simp
  |bn kd a b=>
   simp only[Tr.depth] at h
   have hw:(kd=4∨kd=5)∧a.Ok∧b.Ok:=by
    rcases hok with h|h
    ·exact ⟨h.1,.inl h.2.1,.inl h.2.2⟩
    ·simp at h
   have hn:N.drop o=a.flat++(b.flat++(node kd [] [] 2::r)):=by rw[hd];simp[Tr.flat]
   have hn2:N.drop (o+a.sz)=b.flat++(node kd [] [] 2::r):=by rw[←List.drop_drop,hn,←a.ck];simp
   have hk:K.drop o=a.kids o++(b.kids (o+a.sz)++([.l [[.i (o+a.sz-1:Nat)],[.i (o+a.sz+b.sz-1:Nat)]]]::r')):=by rw[hd'];simp[Tr.kids]
   have hk2:K.drop (o+a.sz)=b.kids (o+a.sz)++([.l [[.i (o+a.sz-1:Nat)],[.i (o+a.sz+b.sz-1:Nat)]]]::r'):=by
    rw[←List.drop_drop,hk,←a.cO o];simp
   have iha:=wg hN hK k a o _ _ (by omega) hw.2.1 hn hk
   have ihb:=wg hN hK k b (o+a.sz) _ _ (by omega) hw.2.2 hn2 hk2
   obtain ⟨h1,h2⟩:=iX hn2
   obtain ⟨h3,h4⟩:=iX hk2
   rw[b.ck] at h1
   rw[b.cO] at h3
   have h2:N[o+a.sz+b.sz]=node kd [] [] 2:=by simp only[b.ck] at h2;exact h2
   have h4:K[o+a.sz+b.sz]=[.l [[.i (o+a.sz-1:Nat)],[.i (o+a.sz+b.sz-1:Nat)]]]:=by simp only[b.cO] at h4;exact h4
   have e:o+(Tr.bn kd a b).sz-1=o+a.sz+b.sz:=by simp only[Tr.sz];omega
   have hg:N.getD (o+a.sz+b.sz) []=node kd [] [] 2:=by rw[List.getD_eq_getElem?_getD,List.getElem?_eq_getElem h1,h2];rfl
   have hg':K.getD (o+a.sz+b.sz) []=[.l [[.i (o+a.sz-1:Nat)],[.i (o+a.sz+b.sz-1:Nat)]]]:=by rw[List.getD_eq_getElem?_getD,List.getElem?_eq_getElem h3,h4];rfl
   have e1:(((o+a.sz+b.sz:Nat):Int)<(N.length:Int)):=by omega
   have e2:(((o+a.sz+b.sz:Nat):Int)<(K.length:Int)):=by omega
   simp only[e,hg,hg',node,jC,jD,C.I_i,C.L_l,e1,e2,decide_true,jR,jX,iha,ihb,ad,jI,C.B_b,Tr.meets]
   rcases hw.1 with rfl|rfl
   ·cases a.meets ms<;>simp
   ·cases a.meets ms<;>simp
end
end Go.Ev
namespace Go.Ev
def PR.tr:PR→Option Tr
 |.err _=>none
 |.all=>some (.lf 0 [] [])
 |.tree t=>some t
theorem PR.Eu {p:PR} {t:Tr} (h:p.tr=some t):p.nodes=t.flat∧p.ptr=t.enc∧p.code=0:=by
 cases p with
 |err n=>simp[PR.tr] at h
 |all=>simp only[PR.tr,Option.some.injEq] at h;subst h;exact ⟨rfl,rfl,rfl⟩
 |tree u=>simp only[PR.tr,Option.some.injEq] at h;subst h;exact ⟨rfl,rfl,rfl⟩
theorem PR.ES {p:PR} (h:p.tr=none):∃n,p=.err n:=by
 cases p with
 |err n=>exact ⟨n,rfl⟩
 |all=>simp[PR.tr] at h
 |tree u=>simp[PR.tr] at h
theorem EB (s:Str) {n:Nat} (h:pp s=.err n):n≠0:=by
 unfold pp at h
 split at h
 ·simp at h;omega
 ·split at h
  ·simp at h
  ·split at h
   ·split at h
    ·simp at h
    ·simp at h;omega
   ·simp at h;omega
theorem IQ {s:Str} {t:Tr} (h:(pp s).tr=some t):t.Ok∧t.sz≤200∧t.depth≤20:=by
 cases hp:pp s with
 |err n=>rw[hp] at h;simp[PR.tr] at h
 |all=>
  rw[hp] at h
  simp only[PR.tr,Option.some.injEq] at h
  subst h
  exact ⟨.inr rfl,by simp[Tr.sz],by simp[Tr.depth]⟩
 |tree u=>
  rw[hp] at h
  simp only[PR.tr,Option.some.injEq] at h
  subst h
  obtain ⟨h1,h2,h3⟩:=Hy hp
  exact ⟨.inl h1,h2,h3⟩
theorem FE:aO [.l (Tr.lf 0 [] []).flat]=some [.b true]:=by
 have w0:w64 1=1:=aQ (by omega) (by omega)
 have z0:within 0 0 5=true:=rfl
 have h0:apn 2 aO.d4 [.i 0,.l (Tr.lf 0 [] []).flat]=some (.again [.i 1,.l (Tr.lf 0 [] []).flat]):=by
  simp[aO.d4,aO.d3,aO.d2,aO.d1,Tr.flat,node,fO,z0,ad,emp,eX,w0]
 have h1:apn 2 aO.d4 [.i 1,.l (Tr.lf 0 [] []).flat]=some (.brk 0 []):=by
  simp[aO.d4,Tr.flat]
 have hk:=jj (.lf 0 [] []) (by simp[Tr.sz])
 have e:¬(((Tr.lf 0 [] []).flat.length:Int)>400):=by simp[Tr.flat]
 simp only[aO,aO.d6,apL,jC,C.L_l,e,decide_false,jS,hk,call2,jI,C.B_b,jZ]
 rw[aI h0,aU h1]
 simp[aO.d5]
theorem Bv (t:Tr) (ht:t.sz≤400) (ho:t.Ok):aO [.l t.flat]=some [.b true]:=by
 rcases ho with h|rfl
 ·exact vg t ht h
 ·exact FE
theorem tB (t:Tr) (ht:t.sz≤400) (ho:t.Ok):fL [.l t.flat]=some [.b (decide (t.depth≤20))]:=by
 have hd:=t.l8
 have hp:=t.rH
 have hF:=lu
 have hw1:w64 ((t.flat.length:Int)-1)=((0+t.sz-1:Nat):Int):=by rw[t.ck,aQ (by omega) (by omega)];omega
 have hn:bC [.l (t.kids 0),.i (0+t.sz-1:Nat)]=some [.i (t.depth:Nat)]:=
  xU (K:=t.kids 0) (by rw[t.cO];omega) iD t 0 [] (by omega) (by simp only[big];omega) (by simp)
 simp only[fL,fL.d1,apL,jC,jD,Bv t ht ho,ad,call2,jI,C.B_b,jZ,jS,jj t (by omega),C.L_l,hw1,hn,C.I_i,jV]
 have:decide ((t.depth:Int)≤20)=decide (t.depth≤20):=by
  rw[decide_eq_decide];omega
 rw[this]
def Ch (z:Str):Str:=bs #[122,111,110,101,61]++z
def oK (b:Bt):List Str:=b.marks++[Ch b.zone]
def sR (s:Str) (b:Bt):Bool:=match (pp s).tr with
 |some t=>t.meets (oK b)
 |none=>false
theorem EY (z:Str):(Ch z).size=5+z.size:=by
 unfold Ch
 rw[ByteArray.size_append];rfl
theorem rW {b:Bt} (hb:dy b=true):b.marks.length≤10∧b.zone.size≤20:=by
 simp only[dy,qX,bd,within,Bool.and_eq_true,decide_eq_true_eq] at hb
 omega
theorem yO {b:Bt} (hz:b.Sz 1048576) (hb:dy b=true):tJ 1048576 (oK b):=by
 obtain ⟨h1,h2⟩:=rW hb
 refine ⟨by simp[oK];omega,fun s hs=>?_⟩
 rcases List.mem_append.1 hs with hs|hs
 ·exact hz.2.2.2 s hs
 ·simp at hs;subst hs;rw[EY];omega
theorem vF (t:Tr) (ht:t.sz≤400) (ho:t.Ok) (hd:t.depth≤20) {ms:List Str} (hz:tJ 1048576 ms):gB [.l t.flat,.l (ms.map sE)]=some [.b (t.meets ms)]:=by
 have hF:=lu
 have hp:=t.rH
 have hw1:w64 ((t.flat.length:Int)-1)=((0+t.sz-1:Nat):Int):=by rw[t.ck,aQ (by omega) (by omega)];omega
 have hm:bj [.l t.flat,.l (t.kids 0),.i (0+t.sz-1:Nat),.l (ms.map sE)]=some [.b (t.meets ms)]:=
  wg hz (by rw[t.ck];omega) (by rw[t.cO];omega) iD t 0 [] [] (by omega) ho (by simp) (by simp)
 simp only[gB,gB.d1,apL,jC,jD,tB t ht ho,hd,decide_true,ad,call2,jI,C.B_b,jZ,jS,jj t (by omega),C.L_l,hw1,hm,jV]
theorem rB (s:Str) (b:Bt) (hs:s.size≤1048576) (hz:b.Sz 1048576) (hb:dy b=true):ib (.s s::b.e)=some [.b (sR s b)]:=by
 obtain ⟨z1,z2⟩:=rW hb
 have hm:j4 b.e=some [.l ((oK b).map sE)]:=by
  have e1:b.marks.length≤4294967296:=by omega
  have e2:(bs #[122,111,110,101,61]).size+b.zone.size≤4294967296:=by
   have:(bs #[122,111,110,101,61]).size=5:=rfl
   omega
  have e3:b.marks.length+1≤4294967296:=by omega
  simp[j4,j4.d1,Bt.e,e1,e2,e3,oK,Ch,sE]
 simp only[Bt.e] at hm
 simp only[ib,ib.d1,Bt.e,apL,jC,jD,pr s hs,call2,jI,C.I_i,sR]
 cases ht:(pp s).tr with
 |none=>
  obtain ⟨n,hn⟩:=PR.ES ht
  have hne:=EB s hn
  have e:((((PR.err n).code:Nat):Int)==0)=false:=by rw[beq_eq_false_iff_ne];simp only[PR.code];omega
  rw[hn]
  simp only[e,jS,jV]
 |some t=>
  obtain ⟨h1,h2,h3⟩:=PR.Eu ht
  obtain ⟨o1,o2,o3⟩:=IQ ht
  have hp:=vF t (by omega) o1 o3 (yO hz hb)
  rw[h1,h3]
  simp[hm,ad,hp]
theorem Cn (s:Str) (b:Bt) (hs:s.size≤1048576) (hz:b.Sz 1048576) (hb:dy b=true):lP (.s s::b.e)=some [.b (sR s b)]:=by
 obtain ⟨z1,z2⟩:=rW hb
 have hF:=lu
 have e1:b.marks.length≤4294967296:=by omega
 have e2:(bs #[122,111,110,101,61]).size+b.zone.size≤4294967296:=by
  have:(bs #[122,111,110,101,61]).size=5:=rfl
  omega
 have e3:b.marks.length+1≤4294967296:=by omega
 have hmb:b.marks.map sE++[[.s (bs #[122,111,110,101,61]++b.zone)]]=(oK b).map sE:=by simp[oK,Ch,sE]
 simp only[lP,lP.d1,Bt.e,apL,jC,jD,pK s hs,call2,jI,C.I_i,C.L_l,C.S_s,jW,rows,hmb,sR]
 cases ht:(pp s).tr with
 |none=>
  obtain ⟨n,hn⟩:=PR.ES ht
  have hne:=EB s hn
  have e:((((PR.err n).code:Nat):Int)==0)=false:=by rw[beq_eq_false_iff_ne];simp only[PR.code];omega
  rw[hn]
  simp only[e,jS,jV]
 |some t=>
  obtain ⟨h1,h2,h3⟩:=PR.Eu ht
  obtain ⟨o1,o2,o3⟩:=IQ ht
  have hm:ax [t.enc,.l ((oK b).map sE)]=some [.b (t.meets (oK b))]:=vY (yO hz hb) iD t (by omega) o1
  rw[h2,h3]
  simp[e1,e2,e3,hm,ad]
end Go.Ev
namespace Go.Ev
def fq (f:Fl) (nm:Str):Str:=if bIx f nm<0 then mkS [] else match f.bts[(bIx f nm).toNat]? with
 |some b=>b.zone
 |none=>mkS []
theorem tI (f:Fl) (nm:Str):bIx f nm<0∨∃k,∃h:k<f.bts.length,bIx f nm=(k:Nat)∧sEq f.bts[k].name nm=true:=by
 rcases ji (fun x:Bt=>sEq x.name nm) f.bts 0 with h|⟨k,hk,h1,h2⟩
 ·exact .inl h
 ·exact .inr ⟨k,hk,by rw[←Nat.zero_add k];exact h1,h2⟩
theorem uw (f:Fl) (nm:Str):cIx f nm<0∨∃k,∃h:k<f.cps.length,cIx f nm=(k:Nat)∧sEq f.cps[k].name nm=true:=by
 rcases ji (fun x:Cp=>sEq x.name nm) f.cps 0 with h|⟨k,hk,h1,h2⟩
 ·exact .inl h
 ·exact .inr ⟨k,hk,by rw[←Nat.zero_add k];exact h1,h2⟩
theorem mZ (f:Fl) (nm:Str) (hz:f.Sz 1048576):gA (f.e++[.s nm])=some [.s (fq f nm)]:=by
 have hb:=iw f nm hz.1.1
 simp only[Fl.e,jA,jB] at hb
 simp only[gA,gA.d1,Fl.e,jA,jB,apL,jC,jD,hb,ad,jI,C.I_i,C.L_l,jW,fq]
 rcases tI f nm with h|⟨k,hk,h1,_⟩
 ·simp[h,eX]
 ·have e5:¬((k:Int)<0):=by omega
  have e6:((k:Int)<(f.bts.length:Int)):=by omega
  have hg:f.bts[k].e.getD 1 .nil=.s f.bts[k].zone:=rfl
  simp only[h1,e5,e6,decide_true,decide_false,jR,jS,jX,jY,getD_map' Bt.e hk,hg,if_false,List.getElem?_eq_getElem hk,jV]
theorem Dw (f:Fl) (nm:Str) (hz:f.Sz 1048576):oL (f.e++[.s nm])=some [.s (fq f nm)]:=by
 have hb:=kA f nm hz.1.1
 simp only[Fl.e,jA,jB] at hb
 simp only[oL,oL.d1,Fl.e,jA,jB,apL,jC,jD,hb,ad,jI,C.I_i,C.L_l,jW,fq]
 rcases tI f nm with h|⟨k,hk,h1,_⟩
 ·have e:¬(bIx f nm≥0):=by omega
  simp[h,e,eX]
 ·have e5:¬((k:Int)<0):=by omega
  have e7:((k:Int)≥0):=by omega
  have e6:((k:Int)<(f.bts.length:Int)):=by omega
  have hg:f.bts[k].e.getD 1 .nil=.s f.bts[k].zone:=rfl
  simp only[h1,e5,e6,e7,decide_true,jR,jX,jY,getD_map' Bt.e hk,hg,if_false,List.getElem?_eq_getElem hk,jV]
def oth (c x:Cp):Bool:=!sEq x.name c.name&&!sEq x.at_ (mkS [])
def ri (l:List Lk) (b:Bt):Nat→Int
 |0=>0
 |i+1=>match l[i]? with
  |some x=>bif sR x.sel b then w64 (ri l b i+x.w) else ri l b i
  |none=>ri l b i
def pR (f:Fl) (c:Cp) (b:Bt):Nat→Nat
 |0=>0
 |i+1=>match f.cps[i]? with
  |some x=>bif oth c x&&(sEq x.svc c.svc&&sEq (fq f x.at_) b.zone) then pR f c b i+1 else pR f c b i
  |none=>pR f c b i
def mr (f:Fl) (c:Cp) (b:Bt):Nat→Nat
 |0=>0
 |i+1=>match f.cps[i]? with
  |some x=>bif oth c x&&(sEq x.svc c.svc&&sEq x.at_ b.name) then mr f c b i+1 else mr f c b i
  |none=>mr f c b i
def uY (f:Fl) (c:Cp) (b:Bt):Nat→Int
 |0=>w64 (b.room-c.room)
 |i+1=>match f.cps[i]? with
  |some x=>bif oth c x&&sEq x.at_ b.name then w64 (uY f c b i-x.room) else uY f c b i
  |none=>uY f c b i
theorem CG (f:Fl) (c:Cp) (b:Bt):∀i,pR f c b i≤i
 |0=>Nat.le_refl _
 |i+1=>by
  have:=CG f c b i
  simp only[pR]
  split
  ·rename_i x _
   cases oth c x&&(sEq x.svc c.svc&&sEq (fq f x.at_) b.zone)<;>simp<;>omega
  ·omega
theorem yU (f:Fl) (c:Cp) (b:Bt):∀i,mr f c b i≤i
 |0=>Nat.le_refl _
 |i+1=>by
  have:=yU f c b i
  simp only[mr]
  split
  ·rename_i x _
   cases oth c x&&(sEq x.svc c.svc&&sEq x.at_ b.name)<;>simp<;>omega
  ·omega
def w8 (f:Fl) (c:Cp) (b:Bt):List C:=[.i (ri c.likes b c.likes.length),.i (pR f c b f.cps.length:Nat),.i (mr f c b f.cps.length:Nat),.i (uY f c b f.cps.length)]
section
variable {f:Fl} (hz:f.Sz 1048576) {c:Cp} (hc:c.Sz 1048576) {b:Bt} (hb:b.Sz 1048576) (hbo:dy b=true)
include hz hc hb hbo
theorem lz:aX (f.e++c.e++b.e)=some (w8 f c b):=by
 have hl:c.likes.length<big:=by have:=hc.2.2.2.2.2.2.1;simp only[big];omega
 have hlc:f.cps.length<big:=by have:=hz.2.2.1;simp only[big];omega
 have L1:=bH (body:=apn 31 aX.d1) (S:=fun i=>[C.i (i:Nat)]++f.e++c.e++b.e++[C.i 0,C.i 0,C.i 0,C.i 0,C.i (ri c.likes b i),C.i 0,C.i 0,C.i (w64 (b.room-c.room))]) (n:=c.likes.length) (b:=0) (ys:=f.e++c.e++b.e++[C.i 0,C.i 0,C.i 0,C.i 0,C.i (ri c.likes b c.likes.length),C.i 0,C.i 0,C.i (w64 (b.room-c.room))])
  (fun i hi=>by
   have hsz:=hc.2.2.2.2.2.2.2 _ (List.getElem_mem hi)
   have e3:((i:Int)<(c.likes.length:Int)):=by omega
   have hsel:=rB c.likes[i].sel b hsz hb hbo
   simp only[Bt.e] at hsel
   have g0:c.likes[i].e.getD 0 .nil=.s c.likes[i].sel:=rfl
   have g1:c.likes[i].e.getD 1 .nil=.i c.likes[i].w:=rfl
   simp only[Fl.e,Cp.e,Bt.e,jA,jB,apL,jC,jD,aX.d1,C.I_i,C.L_l,jW,jY,getD_map' Lk.e hi,g0,g1,e3,decide_true,jR,jX,w1 hi hl,hsel,ad,jI,C.B_b,ri,List.getElem?_eq_getElem hi]
   cases sR c.likes[i].sel b<;>simp)
  (by simp[aX.d1,Fl.e,Cp.e,Bt.e]) c.likes.length 0 rfl
 have L2:=bH (body:=apn 31 aX.d5) (S:=fun i=>[C.i (i:Nat)]++f.e++c.e++b.e++[C.i 0,C.i 0,C.i 0,C.i 0,C.i (ri c.likes b c.likes.length),C.i ((pR f c b i:Nat):Int),C.i ((mr f c b i:Nat):Int),C.i (uY f c b i)]) (n:=f.cps.length) (b:=2) (ys:=[C.i 0,C.i 0,C.i 0,C.i 0]++w8 f c b)
  (fun i hi=>by
   have e3:((i:Int)<(f.cps.length:Int)):=by omega
   have hw1:=tl (n:=pR f c b i) (by have:=CG f c b i;omega)
   have hw2:=tl (n:=mr f c b i) (by have:=yU f c b i;omega)
   have hzo:=mZ f f.cps[i].at_ hz
   simp only[Fl.e,jA,jB] at hzo
   have q1:(f.cps[i].name.toList==c.name.toList)=sEq f.cps[i].name c.name:=rfl
   have q2:(f.cps[i].at_.toList==(bs #[]).toList)=sEq f.cps[i].at_ (mkS []):=rfl
   have q3:(f.cps[i].at_.toList==b.name.toList)=sEq f.cps[i].at_ b.name:=rfl
   have q4:(f.cps[i].svc.toList==c.svc.toList)=sEq f.cps[i].svc c.svc:=rfl
   have q5:((fq f f.cps[i].at_).toList==b.zone.toList)=sEq (fq f f.cps[i].at_) b.zone:=rfl
   simp only[Fl.e,Cp.e,Bt.e,jA,jB,apL,jC,jD,aX.d5,C.I_i,C.L_l,C.S_s,jW,jY,getD_map' Cp.e hi,e3,decide_true,jR,jX]
   simp only[Cp.e,jC,jD,C.S_s,C.I_i,q1,q2,q3,pR,mr,uY,List.getElem?_eq_getElem hi,oth]
   cases sEq f.cps[i].name c.name with
   |true=>simp[aX.d4,w1 hi hlc]
   |false=>
    cases sEq f.cps[i].at_ (mkS []) with
    |true=>simp[aX.d4,w1 hi hlc]
    |false=>
     cases h3:sEq f.cps[i].at_ b.name<;>cases h4:sEq f.cps[i].svc c.svc<;>cases h5:sEq (fq f f.cps[i].at_) b.zone<;>
      simp only[ja,jZ,jR,jS,Bool.true_and,Bool.false_and,Bool.and_true,Bool.and_false,jJ,jC,jD,aX.d3,aX.d2,C.S_s,C.I_i,q3,q4,q5,h3,h4,h5,hzo,ad,jI,au,apL,aX.d4,w1 hi hlc,hw1,hw2])
  (by simp[aX.d5,Fl.e,Cp.e,Bt.e,w8]) f.cps.length 0 rfl
 simp only[Fl.e,Cp.e,Bt.e,jA,jB,Int.natCast_zero,ri,pR,mr,uY,w8] at L1 L2
 simp only[aX,aX.d8,Fl.e,Cp.e,Bt.e,jA,jB,apL,jC,jD,C.I_i]
 rw[L1]
 simp only[au,apL,jC,jD,aX.d7]
 rw[L2]
 simp[aX.d6,w8]
end
end Go.Ev
namespace Go.Ev
theorem CV {f:Fl} (h:bO f=true):∀b,b∈f.bts→dy b=true:=by
 intro b hb
 obtain ⟨i,hi,rfl⟩:=List.getElem_of_mem hb
 simp only[bO,Bool.and_eq_true] at h
 have:=(bX _ _ _).1 h.2.2.2.2.2.1 i (Nat.zero_le _) (by omega)
 simp only[btA,List.getElem?_eq_getElem hi,Bool.and_eq_true] at this
 exact this.1
theorem Fz {f:Fl} (h:bO f=true):∀c,c∈f.cps→ig c=true:=by
 intro b hb
 obtain ⟨i,hi,rfl⟩:=List.getElem_of_mem hb
 simp only[bO,Bool.and_eq_true] at h
 have:=(bX _ _ _).1 h.2.2.2.2.1 i (Nat.zero_le _) (by omega)
 simp only[cpA,List.getElem?_eq_getElem hi,Bool.and_eq_true] at this
 exact this.1
structure VB (f:Fl):Prop where
 n60:f.cps.length≤60
 cb:∀x,x∈f.cps→(0≤x.room∧x.room≤1000)∧(0≤x.hold∧x.hold≤1000)∧(0≤x.apart∧x.apart≤2)∧(0≤x.rank∧x.rank≤100)∧(0≤x.born∧x.born≤1000000)
 bb:∀b,b∈f.bts→dy b=true
theorem tO {f:Fl} (h:VB f):∀b,b∈f.bts→dy b=true:=h.bb
theorem eZ {f:Fl} (h:bO f=true):VB f:=by
 refine ⟨?_,fun x hx=>?_,CV h⟩
 ·simp only[bO,Bool.and_eq_true,decide_eq_true_eq] at h
  exact h.2.2.1
 ·have:=Fz h x hx
  simp only[ig,within,Bool.and_eq_true,decide_eq_true_eq] at this
  exact ⟨this.2.2.2.1,this.2.2.2.2.1,this.2.2.2.2.2.2.1,this.2.1,this.2.2.1⟩
section
variable {f:Fl} (hz:f.Sz 1048576) {c:Cp} (hc:c.Sz 1048576) {b:Bt} (hb:b.Sz 1048576) (hbo:dy b=true)
include hz hc hb hbo
end
section
variable {f:Fl} (hz:f.Sz 1048576) (cn bn_:Str)
include hz
end
end Go.Ev
namespace Go.Ev
def FR {α:Type} (p:α→Bool) (l:List α) (j:Nat):Bool:=match l[j]? with|some x=>p x|none=>false
theorem vV {α:Type} (p:α→Bool) {l:List α} {j:Nat} (h:j<l.length):FR p l j=p l[j]:=by simp[FR,h]
theorem IM {α:Type} (p:α→Bool) (l:List α):aA (fun j=>!FR p l j) 0 l.length=!l.any p:=by
 rw[←Bool.not_not (b:=aA _ _ _)]
 congr 1
 rw[Bool.eq_iff_iff,Cb,List.any_eq_true]
 constructor
 ·rintro ⟨j,_,h1,h2⟩
  have hj:j<l.length:=by omega
  rw[vV p hj] at h2
  exact ⟨_,List.getElem_mem hj,h2⟩
 ·rintro ⟨x,hx,h⟩
  obtain ⟨j,hj,rfl⟩:=List.getElem_of_mem hx
  exact ⟨j,Nat.zero_le _,by omega,by rw[vV p hj];exact h⟩
def lE {α:Type} (p:α→Bool) (l:List α) (i:Nat):Bool:=(l.take i).any p
theorem zv {α:Type} (p:α→Bool) {l:List α} {i:Nat} (h:i<l.length):lE p l (i+1)=(lE p l i||p l[i]):=by
 unfold lE
 rw[List.take_succ_eq_append_getElem h,List.any_append]
 simp only[List.any_cons,List.any_nil,Bool.or_false]
theorem Bn {α:Type} (p:α→Bool) (l:List α):lE p l l.length=l.any p:=by simp[lE]
def gE {α:Type} (p:α→Bool) (l:List α) (i:Nat):Nat:=(l.take i).countP p
theorem tK {α:Type} (p:α→Bool) {l:List α} {i:Nat} (h:i<l.length):gE p l (i+1)=gE p l i+(bif p l[i] then 1 else 0):=by
 simp only[gE,List.take_succ_eq_append_getElem h,List.countP_append,List.countP_cons,List.countP_nil]
 cases p l[i]<;>simp
theorem Ew {α:Type} (p:α→Bool) (l:List α) (i:Nat):gE p l i≤i:=by
 have:=List.countP_le_length (p:=p) (l:=l.take i)
 simp only[gE,List.length_take] at*
 omega
def dp {α:Type} (p:α→Bool) (g:α→Int) (l:List α) (i:Nat):Int:=((l.take i).map fun x=>bif p x then g x else 0).sum
theorem nF {α:Type} (p:α→Bool) (g:α→Int) {l:List α} {i:Nat} (h:i<l.length):dp p g l (i+1)=dp p g l i+(bif p l[i] then g l[i] else 0):=by
 unfold dp
 rw[List.take_succ_eq_append_getElem h,List.map_append,List.sum_append]
 simp only[List.map_cons,List.map_nil,List.sum_cons,List.sum_nil,Int.add_zero]
theorem lx {α:Type} (p:α→Bool) (g:α→Int) {l:List α} (hl:∀x,x∈l→0≤g x∧g x≤1000):∀i,i≤l.length→0≤dp p g l i∧dp p g l i≤1000*i
 |0,_=>by simp[dp]
 |i+1,h=>by
  have ih:=lx p g hl i (by omega)
  have h2:=hl _ (List.getElem_mem (show i<l.length by omega))
  rw[nF p g (by omega)]
  cases p l[i]<;>simp only[jR,jS]<;>omega
def qp (f:Fl) (c:Cp) (b:Bt) (x:Cp):Bool:=oth c x&&(sEq x.svc c.svc&&(sEq x.at_ b.name&&(x.apart !=0||c.apart !=0)||sEq (fq f x.at_) b.zone&&(x.apart==2||c.apart==2)))
def p9 (f:Fl) (c:Cp) (b:Bt) (x:Cp):Bool:=oth c x&&(sEq x.svc c.near&&sEq (fq f x.at_) b.zone)
def sD (c:Cp) (s:Str) (x:Cp):Bool:=oth c x&&sEq x.svc s
def wD (f:Fl) (c:Cp) (b:Bt):Bool:=!sEq c.near (mkS [])&&(!f.cps.any (p9 f c b)&&(f.cps.any (sD c c.near)||!sEq c.near c.svc))
def onP (c:Cp) (b:Bt) (x:Cp):Bool:=oth c x&&sEq x.at_ b.name
def eA (f:Fl) (c:Cp) (b:Bt) (o:Bool):Nat:=
 bif b.shut&&!o then 1 else bif !sEq c.fixed (mkS [])&&!sEq c.fixed b.name then 2 else bif !sR c.sel b then 3 else bif f.cps.any (qp f c b) then 4 else bif wD f c b then 5 else
 bif decide (10≤gE (onP c b) f.cps f.cps.length) then 6 else bif decide (b.room<dp (onP c b) Cp.room f.cps f.cps.length+c.room) then 7 else bif decide (b.hold<dp (onP c b) Cp.hold f.cps f.cps.length+c.hold) then 8 else 0
theorem Bc {b:Bt} (h:dy b=true) (s:Str) (hs:sEq s b.name=true):sEq s (mkS [])=false:=by
 cases h0:sEq s (mkS []) with
 |false=>rfl
 |true=>
  have e1:s=b.name:=by rw[cF] at hs;exact hs
  have e2:s=mkS []:=by rw[cF] at h0;exact h0
  rw[e2] at e1
  simp only[dy,Bool.and_eq_true] at h
  have h:=h.1
  rw[←e1] at h
  exact absurd h (by decide)
theorem kz {f:Fl} (h:VB f):∀x,x∈f.cps→0≤x.room∧x.room≤1000:=fun x hx=>(h.cb x hx).1
theorem kv {f:Fl} (h:VB f):∀x,x∈f.cps→0≤x.hold∧x.hold≤1000:=fun x hx=>(h.cb x hx).2.1
theorem tq {f:Fl} (h:VB f):∀x,x∈f.cps→0≤x.apart∧x.apart≤2:=fun x hx=>(h.cb x hx).2.2.1
theorem uO {f:Fl} (h:VB f):f.cps.length≤60:=h.n60
end Go.Ev
namespace Go.Ev
section
variable {f:Fl} (hz:f.Sz 1048576) {c:Cp} (hc:c.Sz 1048576) {b:Bt} (hb:b.Sz 1048576) (hbo:dy b=true)
include hz hc hb hbo
theorem vH:bq (f.e++c.e++b.e)=some [.b (f.cps.any (qp f c b))]:=by
 have hlc:f.cps.length<big:=by have:=hz.2.2.1;simp only[big];omega
 have h:=dA (body:=apn 23 bq.d3) (S:=fun i=>[C.i (i:Nat)]++f.e++c.e++b.e) (p:=fun j=>!FR (qp f c b) f.cps j) (n:=f.cps.length) (b:=0) (ys:=[]) (r:=[.b true])
  (fun i hi=>by
   have e3:((i:Int)<(f.cps.length:Int)):=by omega
   have hzo:=mZ f f.cps[i].at_ hz
   simp only[Fl.e,jA,jB] at hzo
   have q1:(f.cps[i].name.toList==c.name.toList)=sEq f.cps[i].name c.name:=rfl
   have q2:(f.cps[i].at_.toList==(bs #[]).toList)=sEq f.cps[i].at_ (mkS []):=rfl
   have q3:(f.cps[i].at_.toList==b.name.toList)=sEq f.cps[i].at_ b.name:=rfl
   have q4:(f.cps[i].svc.toList==c.svc.toList)=sEq f.cps[i].svc c.svc:=rfl
   have q5:((fq f f.cps[i].at_).toList==b.zone.toList)=sEq (fq f f.cps[i].at_) b.zone:=rfl
   simp only[vV _ hi,qp,oth]
   simp only[Fl.e,Cp.e,Bt.e,jA,jB,apL,jC,jD,bq.d3,C.I_i,C.L_l,C.S_s,jW,jY,getD_map' Cp.e hi,e3,decide_true,jR,jX]
   simp only[Cp.e,jC,jD,C.S_s,C.I_i,q1,q2,q3,q4]
   cases sEq f.cps[i].name c.name with
   |true=>simp[bq.d2,w1 hi hlc]
   |false=>
    cases sEq f.cps[i].svc c.svc with
    |false=>simp[bq.d2,w1 hi hlc]
    |true=>
     cases sEq f.cps[i].at_ (mkS []) with
     |true=>simp[bq.d2,w1 hi hlc]
     |false=>
      cases h3:sEq f.cps[i].at_ b.name<;>cases h4:f.cps[i].apart !=0<;>cases h5:c.apart !=0<;>cases h6:sEq (fq f f.cps[i].at_) b.zone<;>cases h7:f.cps[i].apart==2<;>cases h8:c.apart==2<;>
       simp only[ja,jZ,jR,jS,Bool.true_and,Bool.false_and,Bool.and_true,Bool.and_false,Bool.or_true,Bool.or_false,Bool.false_or,Bool.true_or,jJ,u7,u6,jC,jD,bq.d1,C.S_s,C.I_i,q5,h6,h7,h8,hzo,ad,jI,au,apL,bq.d2,w1 hi hlc])
  (by simp[bq.d3,Fl.e,Cp.e,Bt.e]) f.cps.length 0 rfl
 simp only[Fl.e,Cp.e,Bt.e,jA,jB,Int.natCast_zero,IM] at h
 simp only[bq,bq.d5,Fl.e,Cp.e,Bt.e,jA,jB,apL,jC,jD]
 rw[h]
 cases f.cps.any (qp f c b)<;>simp[bq.d4]
theorem DC:eK (f.e++c.e++b.e)=some [.b (wD f c b)]:=by
 have hlc:f.cps.length<big:=by have:=hz.2.2.1;simp only[big];omega
 have h:=dA (body:=apn 24 eK.d2) (S:=fun i=>[C.b (lE (sD c c.near) f.cps i),C.i (i:Nat)]++f.e++c.e++b.e) (p:=fun j=>!FR (p9 f c b) f.cps j) (n:=f.cps.length) (b:=0) (ys:=.b (lE (sD c c.near) f.cps f.cps.length)::c.e) (r:=[.b false])
  (fun i hi=>by
   have e3:((i:Int)<(f.cps.length:Int)):=by omega
   have hzo:=mZ f f.cps[i].at_ hz
   simp only[Fl.e,jA,jB] at hzo
   have q1:(f.cps[i].name.toList==c.name.toList)=sEq f.cps[i].name c.name:=rfl
   have q2:(f.cps[i].at_.toList==(bs #[]).toList)=sEq f.cps[i].at_ (mkS []):=rfl
   have q4:(f.cps[i].svc.toList==c.near.toList)=sEq f.cps[i].svc c.near:=rfl
   have q5:((fq f f.cps[i].at_).toList==b.zone.toList)=sEq (fq f f.cps[i].at_) b.zone:=rfl
   simp only[vV _ hi,p9,oth,zv _ hi]
   generalize lE (sD c c.near) f.cps i=q
   simp only[Fl.e,Cp.e,Bt.e,jA,jB,apL,jC,jD,eK.d2,C.I_i,C.L_l,C.S_s,jW,jY,getD_map' Cp.e hi,e3,decide_true,jR,jX,sD,oth]
   simp only[Cp.e,jC,jD,C.S_s,C.I_i,q1,q2,q4]
   cases sEq f.cps[i].name c.name with
   |true=>simp[eK.d1,w1 hi hlc]
   |false=>
    cases sEq f.cps[i].svc c.near with
    |false=>simp[eK.d1,w1 hi hlc]
    |true=>
     cases sEq f.cps[i].at_ (mkS []) with
     |true=>simp[eK.d1,w1 hi hlc]
     |false=>cases h6:sEq (fq f f.cps[i].at_) b.zone<;>simp[eK.d1,w1 hi hlc,hzo,ad,q5,h6])
  (by simp[eK.d2,Fl.e,Cp.e,Bt.e]) f.cps.length 0 rfl
 have h0:lE (sD c c.near) f.cps 0=false:=by simp[lE]
 have q0:(c.near.toList==(bs #[]).toList)=sEq c.near (mkS []):=rfl
 have q1:(c.near.toList==c.svc.toList)=sEq c.near c.svc:=rfl
 simp only[Fl.e,Cp.e,Bt.e,jA,jB,Int.natCast_zero,IM,h0,Bn] at h
 simp only[eK,eK.d4,Fl.e,Cp.e,Bt.e,jA,jB,apL,jC,jD,C.S_s,q0,wD]
 rw[h]
 cases sEq c.near (mkS [])<;>cases f.cps.any (p9 f c b)<;>cases f.cps.any (sD c c.near)<;>simp[eK.d3,q1]
theorem mQ (hv:VB f) (hr:0≤c.room∧c.room≤1000) (hh:0≤c.hold∧c.hold≤1000) (o:Bool):cC (f.e++c.e++b.e++[.b o])=some [.i (eA f c b o:Nat)]:=by
 have hlc:f.cps.length<big:=by have:=hz.2.2.1;simp only[big];omega
 have h60:=uO hv
 have h:=bH (body:=apn 27 cC.d2) (S:=fun i=>[C.b o,C.i (dp (onP c b) Cp.room f.cps i+c.room),C.i (dp (onP c b) Cp.hold f.cps i+c.hold),C.i (gE (onP c b) f.cps i:Nat),C.i (i:Nat)]++f.e++c.e++b.e) (n:=f.cps.length) (b:=0)
  (ys:=[C.b o,C.i (dp (onP c b) Cp.room f.cps f.cps.length+c.room),C.i (dp (onP c b) Cp.hold f.cps f.cps.length+c.hold),C.i (gE (onP c b) f.cps f.cps.length:Nat)]++f.e++c.e++b.e)
  (fun i hi=>by
   have e3:((i:Int)<(f.cps.length:Int)):=by omega
   have q1:(f.cps[i].name.toList==c.name.toList)=sEq f.cps[i].name c.name:=rfl
   have q3:(f.cps[i].at_.toList==b.name.toList)=sEq f.cps[i].at_ b.name:=rfl
   have b1:=lx (onP c b) Cp.room (kz hv) i (by omega)
   have b2:=lx (onP c b) Cp.hold (kv hv) i (by omega)
   have b3:=Ew (onP c b) f.cps i
   have b4:=kz hv _ (List.getElem_mem hi)
   have b5:=kv hv _ (List.getElem_mem hi)
   have w2:w64 (dp (onP c b) Cp.room f.cps i+c.room+f.cps[i].room)=dp (onP c b) Cp.room f.cps i+f.cps[i].room+c.room:=by rw[aQ (by omega) (by omega)];omega
   have w3:w64 (dp (onP c b) Cp.hold f.cps i+c.hold+f.cps[i].hold)=dp (onP c b) Cp.hold f.cps i+f.cps[i].hold+c.hold:=by rw[aQ (by omega) (by omega)];omega
   have w4:=tl (n:=gE (onP c b) f.cps i) (by omega)
   have hon:onP c b f.cps[i]=(!sEq f.cps[i].name c.name&&sEq f.cps[i].at_ b.name):=by
    unfold onP oth
    cases h3:sEq f.cps[i].at_ b.name with
    |true=>rw[Bc hbo _ h3];simp
    |false=>simp
   simp only[Fl.e,Cp.e,Bt.e,jA,jB,apL,jC,jD,cC.d2,C.I_i,C.L_l,C.S_s,jW,jY,getD_map' Cp.e hi,e3,decide_true,jR,jX,nF _ _ hi,tK _ hi,hon]
   simp only[Cp.e,jC,jD,C.S_s,C.I_i,q1,q3]
   cases sEq f.cps[i].name c.name<;>cases sEq f.cps[i].at_ b.name<;>simp[cC.d1,w1 hi hlc,w2,w3,w4])
  (by simp[cC.d2,Fl.e,Cp.e,Bt.e]) f.cps.length 0 rfl
 have z1:dp (onP c b) Cp.room f.cps 0=0:=by simp[dp]
 have z2:dp (onP c b) Cp.hold f.cps 0=0:=by simp[dp]
 have z3:gE (onP c b) f.cps 0=0:=by simp[gE]
 have hsel:=rB c.sel b hc.2.2.1 hb hbo
 have hT:=vH hz hc hb hbo
 have hF:=DC hz hc hb hbo
 have q0:(c.fixed.toList==(bs #[]).toList)=sEq c.fixed (mkS []):=rfl
 have q1:(c.fixed.toList==b.name.toList)=sEq c.fixed b.name:=rfl
 simp only[Fl.e,Cp.e,Bt.e,jA,jB,Int.natCast_zero,z1,z2,z3,Int.zero_add] at h hsel hT hF
 simp only[cC,cC.d6,Fl.e,Cp.e,Bt.e,jA,jB,apL,jC,jD]
 rw[h]
 have e6:(10:Int)≤((gE (onP c b) f.cps f.cps.length:Nat):Int)↔10≤gE (onP c b) f.cps f.cps.length:=by omega
 simp only[au,apL,jC,jD,cC.d5,C.B_b,eA]
 have fin:∀e:Bool,cC.d3 (.i (dp (onP c b) Cp.room f.cps f.cps.length+c.room)) (.i (dp (onP c b) Cp.hold f.cps f.cps.length+c.hold)) (.i (gE (onP c b) f.cps f.cps.length:Nat)) (.b e) (.b f.pack) (.l (f.bts.map Bt.e)) (.l (f.svs.map Sv.e)) (.l (f.cps.map Cp.e))
   (.s c.name) (.s c.svc) (.i c.rank) (.i c.born) (.i c.room) (.i c.hold) (.s c.sel) (.l (c.likes.map Lk.e)) (.i c.apart) (.s c.near) (.s c.fixed) (.s c.at_) (.s b.name) (.s b.zone) (.l (b.marks.map sE)) (.i b.room) (.i b.hold) (.b b.shut)=
   some (.ret [.i (((bif e then 2 else bif !sR c.sel b then 3 else bif f.cps.any (qp f c b) then 4 else bif wD f c b then 5 else
 bif decide (10≤gE (onP c b) f.cps f.cps.length) then 6 else bif decide (b.room<dp (onP c b) Cp.room f.cps f.cps.length+c.room) then 7 else bif decide (b.hold<dp (onP c b) Cp.hold f.cps f.cps.length+c.hold) then 8 else 0:Nat):Nat):Int)]):=by
  intro e
  simp only[cC.d3,C.B_b,C.I_i,hsel,hT,hF,ad,jI,jC,ge_iff_le,e6,gt_iff_lt]
  cases e
  ·simp only[jS]
   cases sR c.sel b
   ·rfl
   ·simp only[jZ,jS]
    cases f.cps.any (qp f c b)
    ·simp only[jS]
     cases wD f c b
     ·simp only[jS]
      cases decide (10≤gE (onP c b) f.cps f.cps.length)
      ·simp only[jS]
       cases decide (b.room<dp (onP c b) Cp.room f.cps f.cps.length+c.room)
       ·simp only[jS]
        cases decide (b.hold<dp (onP c b) Cp.hold f.cps f.cps.length+c.hold)<;>rfl
       ·rfl
      ·rfl
     ·rfl
    ·rfl
  ·rfl
 generalize (bif !sR c.sel b then 3 else bif f.cps.any (qp f c b) then 4 else bif wD f c b then 5 else
 bif decide (10≤gE (onP c b) f.cps f.cps.length) then 6 else bif decide (b.room<dp (onP c b) Cp.room f.cps f.cps.length+c.room) then 7 else bif decide (b.hold<dp (onP c b) Cp.hold f.cps f.cps.length+c.hold) then 8 else 0:Nat)=N at fin⊢
 cases hs:b.shut<;>rw[hs] at fin<;>cases o<;>cases h1:sEq c.fixed (mkS [])<;>cases h2:sEq c.fixed b.name<;>
  simp only[cC.d4,q0,q1,h1,h2,fin,C.B_b,C.S_s,jR,jS,jZ,ja,Bool.and_true,Bool.and_false,Bool.true_and,Bool.false_and,jJ,apL,jC,jD,jV]<;>rfl
end
end Go.Ev
namespace Go.Ev
section
variable {f:Fl} (hz:f.Sz 1048576) {c:Cp} (hc:c.Sz 1048576) {b:Bt} (hb:b.Sz 1048576) (hbo:dy b=true)
include hz hc hb hbo
theorem BN (hv:VB f) (hr:0≤c.room∧c.room≤1000) (hh:0≤c.hold∧c.hold≤1000) (ha:0≤c.apart∧c.apart≤2):lim (apn 31 bU.d4) ([C.b false,C.b false,C.i 0,C.i 0,C.i 0,C.b false,C.l (f.cps.map Cp.e),C.i ((f.cps.length:Nat):Int),C.i 0]++f.e++c.e++b.e)=
  some (.brk 0 ([C.b (lE (p9 f c b) f.cps f.cps.length),C.b (lE (sD c c.svc) f.cps f.cps.length),C.i (gE (onP c b) f.cps f.cps.length:Nat),C.i (dp (onP c b) Cp.room f.cps f.cps.length),C.i (dp (onP c b) Cp.hold f.cps f.cps.length),C.b (lE (qp f c b) f.cps f.cps.length)]++c.e++b.e)):=by
 have hlc:f.cps.length<big:=by have:=hz.2.2.1;simp only[big];omega
 have h60:=uO hv
 have h:=bH (body:=apn 31 bU.d4) (S:=fun i=>[C.b (lE (p9 f c b) f.cps i),C.b (lE (sD c c.svc) f.cps i),C.i (gE (onP c b) f.cps i:Nat),C.i (dp (onP c b) Cp.room f.cps i),C.i (dp (onP c b) Cp.hold f.cps i),C.b (lE (qp f c b) f.cps i),C.l (f.cps.map Cp.e),C.i ((f.cps.length:Nat):Int),C.i (i:Nat)]++f.e++c.e++b.e) (n:=f.cps.length) (b:=0)
  (ys:=[C.b (lE (p9 f c b) f.cps f.cps.length),C.b (lE (sD c c.svc) f.cps f.cps.length),C.i (gE (onP c b) f.cps f.cps.length:Nat),C.i (dp (onP c b) Cp.room f.cps f.cps.length),C.i (dp (onP c b) Cp.hold f.cps f.cps.length),C.b (lE (qp f c b) f.cps f.cps.length)]++c.e++b.e)
  (fun i hi=>by
   have e3:((i:Int)<(f.cps.length:Int)):=by omega
   have hzo:=Dw f f.cps[i].at_ hz
   simp only[Fl.e,jA,jB] at hzo
   have q1:(f.cps[i].name.toList==c.name.toList)=sEq f.cps[i].name c.name:=rfl
   have q2:(f.cps[i].at_.toList==(bs #[]).toList)=sEq f.cps[i].at_ (mkS []):=rfl
   have q3:(f.cps[i].at_.toList==b.name.toList)=sEq f.cps[i].at_ b.name:=rfl
   have q4:(f.cps[i].svc.toList==c.svc.toList)=sEq f.cps[i].svc c.svc:=rfl
   have q6:(f.cps[i].svc.toList==c.near.toList)=sEq f.cps[i].svc c.near:=rfl
   have q5:((fq f f.cps[i].at_).toList==b.zone.toList)=sEq (fq f f.cps[i].at_) b.zone:=rfl
   have b1:=lx (onP c b) Cp.room (kz hv) i (by omega)
   have b2:=lx (onP c b) Cp.hold (kv hv) i (by omega)
   have b3:=Ew (onP c b) f.cps i
   have b4:=kz hv _ (List.getElem_mem hi)
   have b5:=kv hv _ (List.getElem_mem hi)
   have b6:=tq hv _ (List.getElem_mem hi)
   have w2:w64 (dp (onP c b) Cp.room f.cps i+f.cps[i].room)=dp (onP c b) Cp.room f.cps i+f.cps[i].room:=by rw[aQ (by omega) (by omega)]
   have w3:w64 (dp (onP c b) Cp.hold f.cps i+f.cps[i].hold)=dp (onP c b) Cp.hold f.cps i+f.cps[i].hold:=by rw[aQ (by omega) (by omega)]
   have w4:=tl (n:=gE (onP c b) f.cps i) (by omega)
   have w5:decide (w64 (c.apart+f.cps[i].apart)>0)=(f.cps[i].apart !=0||c.apart !=0):=by
    rw[aQ (by omega) (by omega),Bool.eq_iff_iff,decide_eq_true_eq,Bool.or_eq_true,bne_iff_ne,bne_iff_ne];omega
   simp only[zv _ hi,nF _ _ hi,tK _ hi]
   generalize lE (p9 f c b) f.cps i=A1
   generalize lE (sD c c.svc) f.cps i=A2
   generalize lE (qp f c b) f.cps i=A3
   generalize dp (onP c b) Cp.room f.cps i=A4 at w2
   generalize dp (onP c b) Cp.hold f.cps i=A5 at w3
   generalize gE (onP c b) f.cps i=A6 at w4
   simp only[Fl.e,Cp.e,Bt.e,jA,jB,apL,jC,jD,bU.d4,C.I_i,C.L_l,C.S_s,jW,jY,getD_map' Cp.e hi,e3,decide_true,jR,jX,p9,sD,qp,onP,oth]
   simp only[Cp.e,jC,jD,C.S_s,C.I_i,C.B_b,q1,q2,q3,q4,q5,w5,hzo,ad,jI]
   cases sEq f.cps[i].name c.name with
   |true=>simp[bU.d3,w1 hi hlc]
   |false=>
    cases sEq f.cps[i].at_ (mkS []) with
    |true=>simp[bU.d3,w1 hi hlc]
    |false=>
     simp only[ja,jR,jS,Bool.true_and]
     have fin:∀(t:Bool) (n:Bool),ah 1 (bU.d2 (.b A1) (.b n) (.i (A6:Nat)) (.i A4) (.i A5) (.b t) (.b (sEq (fq f f.cps[i].at_) b.zone)) (.l (f.cps.map Cp.e)) (.i (f.cps.length:Nat)) (.i (i:Nat)) (.b f.pack) (.l (f.bts.map Bt.e)) (.l (f.svs.map Sv.e)) (.l (f.cps.map Cp.e))
       (.s c.name) (.s c.svc) (.i c.rank) (.i c.born) (.i c.room) (.i c.hold) (.s c.sel) (.l (c.likes.map Lk.e)) (.i c.apart) (.s c.near) (.s c.fixed) (.s c.at_) (.s b.name) (.s b.zone) (.l (b.marks.map sE)) (.i b.room) (.i b.hold) (.b b.shut)
       (.s f.cps[i].name) (.s f.cps[i].svc) (.i f.cps[i].rank) (.i f.cps[i].born) (.i f.cps[i].room) (.i f.cps[i].hold) (.s f.cps[i].sel) (.l (f.cps[i].likes.map Lk.e)) (.i f.cps[i].apart) (.s f.cps[i].near) (.s f.cps[i].fixed) (.s f.cps[i].at_)) (apn 31 bU.d3)=
       some (.again [.b (A1||(sEq f.cps[i].svc c.near&&sEq (fq f f.cps[i].at_) b.zone)),.b n,.i ((A6+(bif sEq f.cps[i].at_ b.name then 1 else 0):Nat):Int),.i (A4+(bif sEq f.cps[i].at_ b.name then f.cps[i].room else 0)),.i (A5+(bif sEq f.cps[i].at_ b.name then f.cps[i].hold else 0)),.b t,.l (f.cps.map Cp.e),.i (f.cps.length:Nat),.i ((i+1:Nat):Int),.b f.pack,.l (f.bts.map Bt.e),.l (f.svs.map Sv.e),.l (f.cps.map Cp.e),
       .s c.name,.s c.svc,.i c.rank,.i c.born,.i c.room,.i c.hold,.s c.sel,.l (c.likes.map Lk.e),.i c.apart,.s c.near,.s c.fixed,.s c.at_,.s b.name,.s b.zone,.l (b.marks.map sE),.i b.room,.i b.hold,.b b.shut]):=by
      intro t n
      simp only[bU.d2,C.B_b,C.S_s,q6]
      cases A1<;>cases sEq f.cps[i].svc c.near<;>cases sEq (fq f f.cps[i].at_) b.zone<;>cases h3:sEq f.cps[i].at_ b.name<;>
       simp only[ja,jZ,jR,jS,jJ,jC,jD,bU.d1,C.S_s,C.I_i,q3,h3,au,apL,bU.d3,w1 hi hlc,w2,w3,w4,Bool.or_true,Bool.or_false,Bool.and_true,Bool.and_false,Bool.true_and,Bool.false_and,Int.add_zero,Nat.add_zero]
     cases h4:sEq f.cps[i].svc c.svc with
     |false=>simp only[jS,Bool.false_and,Bool.or_false,jJ,jC,jD,fin]
     |true=>
      have fin':=fun t:Bool=>fin t true
      cases A3<;>cases h3:sEq f.cps[i].at_ b.name<;>rw[h3] at fin'<;>cases hA:(f.cps[i].apart !=0||c.apart !=0)<;>cases h6:sEq (fq f f.cps[i].at_) b.zone<;>rw[h6] at fin'<;>cases h8:c.apart==2<;>
       simp only[ja,jZ,jR,jS,Bool.true_and,Bool.false_and,Bool.and_true,Bool.and_false,Bool.or_true,Bool.or_false,Bool.false_or,Bool.true_or,jJ,jC,jD,fin'])
  (by simp[bU.d4,Fl.e,Cp.e,Bt.e]) f.cps.length 0 rfl
 have z1:dp (onP c b) Cp.room f.cps 0=0:=by simp[dp]
 have z2:dp (onP c b) Cp.hold f.cps 0=0:=by simp[dp]
 have z3:gE (onP c b) f.cps 0=0:=by simp[gE]
 have z4:∀p:Cp→Bool,lE p f.cps 0=false:=by simp[lE]
 simp only[Int.natCast_zero,z1,z2,z3,z4] at h
 exact h
theorem DI (hv:VB f) (hr:0≤c.room∧c.room≤1000) (hh:0≤c.hold∧c.hold≤1000) (ha:0≤c.apart∧c.apart≤2) (o:Bool):bU (f.e++c.e++b.e++[.b o])=some [.i (eA f c b (!o):Nat)]:=by
 have h60:=uO hv
 have h:=BN hz hc hb hbo hv hr hh ha
 have hsel:=Cn c.sel b hc.2.2.1 hb hbo
 have q0:(c.fixed.toList==(bs #[]).toList)=sEq c.fixed (mkS []):=rfl
 have q1:(c.fixed.toList==b.name.toList)=sEq c.fixed b.name:=rfl
 have q2:(c.near.toList==(bs #[]).toList)=sEq c.near (mkS []):=rfl
 have q3:(c.near.toList==c.svc.toList)=sEq c.near c.svc:=rfl
 have b1:=lx (onP c b) Cp.room (kz hv) f.cps.length (by omega)
 have b2:=lx (onP c b) Cp.hold (kv hv) f.cps.length (by omega)
 have w2:w64 (dp (onP c b) Cp.room f.cps f.cps.length+c.room)=dp (onP c b) Cp.room f.cps f.cps.length+c.room:=by rw[aQ (by omega) (by omega)]
 have w3:w64 (dp (onP c b) Cp.hold f.cps f.cps.length+c.hold)=dp (onP c b) Cp.hold f.cps f.cps.length+c.hold:=by rw[aQ (by omega) (by omega)]
 have e6:(10:Int)≤((gE (onP c b) f.cps f.cps.length:Nat):Int)↔10≤gE (onP c b) f.cps f.cps.length:=by omega
 simp only[Fl.e,Cp.e,Bt.e,jA,jB,Bn] at h hsel
 have far:(!sEq c.near (mkS [])&&(!f.cps.any (p9 f c b)&&!(sEq c.near c.svc&&!f.cps.any (sD c c.svc))))=wD f c b:=by
  unfold wD
  cases hn:sEq c.near c.svc with
  |true=>rw[(cF _ _).1 hn];simp
  |false=>simp
 have fin:bU.d7 (.b f.pack) (.l (f.bts.map Bt.e)) (.l (f.svs.map Sv.e)) (.l (f.cps.map Cp.e))
   (.s c.name) (.s c.svc) (.i c.rank) (.i c.born) (.i c.room) (.i c.hold) (.s c.sel) (.l (c.likes.map Lk.e)) (.i c.apart) (.s c.near) (.s c.fixed) (.s c.at_) (.s b.name) (.s b.zone) (.l (b.marks.map sE)) (.i b.room) (.i b.hold) (.b b.shut)=
   some (.ret [.i (((bif !sR c.sel b then 3 else bif f.cps.any (qp f c b) then 4 else bif wD f c b then 5 else
 bif decide (10≤gE (onP c b) f.cps f.cps.length) then 6 else bif decide (b.room<dp (onP c b) Cp.room f.cps f.cps.length+c.room) then 7 else bif decide (b.hold<dp (onP c b) Cp.hold f.cps f.cps.length+c.hold) then 8 else 0:Nat):Nat):Int)]):=by
  simp only[bU.d7,hsel,ad,jI,jC,C.B_b,C.L_l,jW]
  cases sR c.sel b
  ·rfl
  simp only[jZ,jS]
  rw[h]
  simp only[au,apL,jC,jD,bU.d6,C.B_b]
  cases f.cps.any (qp f c b)
  ·simp only[jS]
   have d5:∀e:Bool,bU.d5 (.i (gE (onP c b) f.cps f.cps.length:Nat)) (.i (dp (onP c b) Cp.room f.cps f.cps.length)) (.i (dp (onP c b) Cp.hold f.cps f.cps.length)) (.b e)
     (.s c.name) (.s c.svc) (.i c.rank) (.i c.born) (.i c.room) (.i c.hold) (.s c.sel) (.l (c.likes.map Lk.e)) (.i c.apart) (.s c.near) (.s c.fixed) (.s c.at_) (.s b.name) (.s b.zone) (.l (b.marks.map sE)) (.i b.room) (.i b.hold) (.b b.shut)=
     some (.ret [.i (((bif e then 5 else bif decide (10≤gE (onP c b) f.cps f.cps.length) then 6 else bif decide (b.room<dp (onP c b) Cp.room f.cps f.cps.length+c.room) then 7 else bif decide (b.hold<dp (onP c b) Cp.hold f.cps f.cps.length+c.hold) then 8 else 0:Nat):Nat):Int)]):=by
    intro e
    simp only[bU.d5,C.B_b,C.I_i,w2,w3,ge_iff_le,gt_iff_lt,e6]
    cases e
    ·simp only[jS]
     cases decide (10≤gE (onP c b) f.cps f.cps.length)
     ·simp only[jS]
      cases decide (b.room<dp (onP c b) Cp.room f.cps f.cps.length+c.room)
      ·simp only[jS]
       cases decide (b.hold<dp (onP c b) Cp.hold f.cps f.cps.length+c.hold)<;>rfl
      ·rfl
     ·rfl
    ·rfl
   rw[←far]
   generalize (bif decide (10≤gE (onP c b) f.cps f.cps.length) then 6 else bif decide (b.room<dp (onP c b) Cp.room f.cps f.cps.length+c.room) then 7 else bif decide (b.hold<dp (onP c b) Cp.hold f.cps f.cps.length+c.hold) then 8 else 0:Nat)=N at d5⊢
   simp only[C.S_s,q2,q3]
   cases sEq c.near (mkS [])<;>cases f.cps.any (p9 f c b)<;>cases sEq c.near c.svc<;>cases f.cps.any (sD c c.svc)<;>
    simp only[jR,jS,jZ,ja,jJ,apL,jC,jD,d5,Bool.and_true,Bool.and_false,Bool.true_and,Bool.false_and]
  ·rfl
 simp only[bU,bU.d9,Fl.e,Cp.e,Bt.e,jA,jB,apL,jC,jD,C.B_b,eA]
 generalize (bif !sR c.sel b then 3 else bif f.cps.any (qp f c b) then 4 else bif wD f c b then 5 else
 bif decide (10≤gE (onP c b) f.cps f.cps.length) then 6 else bif decide (b.room<dp (onP c b) Cp.room f.cps f.cps.length+c.room) then 7 else bif decide (b.hold<dp (onP c b) Cp.hold f.cps f.cps.length+c.hold) then 8 else 0:Nat)=N at fin⊢
 cases hs:b.shut<;>rw[hs] at fin<;>cases o<;>cases h1:sEq c.fixed (mkS [])<;>cases h2:sEq c.fixed b.name<;>
  simp only[bU.d8,q0,q1,h1,h2,fin,C.B_b,C.S_s,jR,jS,jZ,ja,Bool.and_true,Bool.and_false,Bool.true_and,Bool.false_and,jJ,u7,apL,jC,jD,jV]<;>rfl
end
end Go.Ev
namespace Go.Ev
section
variable {f:Fl} (hz:f.Sz 1048576) (cn bn_:Str)
include hz
end
def better (p:Bool) (a b:Int×Int×Int×Int):Bool:=bif a.1 !=b.1 then decide (a.1>b.1) else bif a.2.1 !=b.2.1 then decide (a.2.1<b.2.1) else bif a.2.2.1 !=b.2.2.1 then decide (a.2.2.1<b.2.2.1) else bif p then decide (a.2.2.2<b.2.2.2) else decide (a.2.2.2>b.2.2.2)
def sc4 (a:Int×Int×Int×Int):List C:=[.i a.1,.i a.2.1,.i a.2.2.1,.i a.2.2.2]
def iG (f:Fl) (c:Cp) (b:Bt):Int×Int×Int×Int:=(ri c.likes b c.likes.length,(pR f c b f.cps.length:Nat),(mr f c b f.cps.length:Nat),uY f c b f.cps.length)
theorem nI (a b:Int×Int×Int×Int) (p:Bool):fk (sc4 a++sc4 b++[.b p])=some [.b (better p a b)]:=by
 simp only[fk,fk.d1,sc4,jA,jB,apL,jC,jD,C.I_i,C.B_b,better]
 cases a.1 !=b.1<;>cases a.2.1 !=b.2.1<;>cases a.2.2.1 !=b.2.2.1<;>cases p<;>rfl
def Il (f:Fl) (c:Cp) (i:Int) (b:Bt):Bool:=decide (i<0)||match f.bts[i.toNat]? with|some y=>better f.pack (iG f c b) (iG f c y)|none=>true
def iI (f:Fl) (c:Cp):Nat→Int
 |0=>-1
 |i+1=>match f.bts[i]? with
  |some b=>bif eA f c b false==0&&Il f c (iI f c i) b then i else iI f c i
  |none=>iI f c i
theorem tP (f:Fl) (c:Cp):∀i,i≤f.bts.length→iI f c i=-1∨∃k,∃h:k<f.bts.length,iI f c i=(k:Nat)
 |0,_=>.inl rfl
 |i+1,h=>by
  have hi:i<f.bts.length:=by omega
  have ih:=tP f c i (by omega)
  simp only[iI,List.getElem?_eq_getElem hi]
  generalize (eA f c f.bts[i] false==0&&_)=q
  cases q with
  |true=>exact .inr ⟨i,hi,rfl⟩
  |false=>exact ih
def gl (f:Fl) (c:Cp):Str:=match f.bts[(iI f c f.bts.length).toNat]? with
 |some b=>if iI f c f.bts.length<0 then mkS [] else b.name
 |none=>mkS []
section
variable {f:Fl} (hz:f.Sz 1048576) {c:Cp} (hc:c.Sz 1048576) (hv:VB f) (hr:0≤c.room∧c.room≤1000) (hh:0≤c.hold∧c.hold≤1000) (ha:0≤c.apart∧c.apart≤2)
include hz hc hv hr hh ha
theorem yH:cG (f.e++c.e)=some [.s (gl f c)]:=by
 have hlc:f.bts.length<big:=by have:=hz.1.1;simp only[big];omega
 have h:=bH (body:=apn 18 cG.d2) (S:=fun i=>[C.i (iI f c i),C.i (i:Nat)]++f.e++c.e) (n:=f.bts.length) (b:=0) (ys:=[C.i (iI f c f.bts.length)]++f.e)
  (fun i hi=>by
   have e3:((i:Int)<(f.bts.length:Int)):=by omega
   have m:=List.getElem_mem hi
   have F1:=mQ hz hc (hz.1.2 _ m) (tO hv _ m) hv hr hh false
   have S1:=lz hz hc (hz.1.2 _ m) (tO hv _ m)
   have S1:aX (f.e++c.e++f.bts[i].e)=some (sc4 (iG f c f.bts[i])):=S1
   have i1:(-1:Int)<0:=by omega
   have fe:(((eA f c f.bts[i] false:Nat):Int)==0)=(eA f c f.bts[i] false==0):=by rw[Bool.eq_iff_iff,beq_iff_eq,beq_iff_eq];omega
   simp only[iI,List.getElem?_eq_getElem hi]
   simp only[Fl.e,Cp.e,Bt.e,jA,jB] at F1 S1
   simp only[Fl.e,Cp.e,jA,jB,apL,jC,jD,cG.d2,C.I_i,C.L_l,C.B_b,jW,jY,getD_map' Bt.e hi,e3,decide_true,jR,jX]
   simp only[Bt.e,jC,jD,F1,S1,ad,jI,C.I_i,fe]
   cases eA f c f.bts[i] false==0 with
   |false=>simp[cG.d1,w1 hi hlc]
   |true=>
    rcases tP f c i (by omega) with h|⟨k,hk,h⟩
    ·simp[h,cG.d1,w1 hi hlc,Il]
    ·have n1:¬((k:Int)<0):=by omega
     have n2:((k:Int)<(f.bts.length:Int)):=by omega
     have m2:=List.getElem_mem hk
     have S2:aX (f.e++c.e++f.bts[k].e)=some (sc4 (iG f c f.bts[k])):=lz hz hc (hz.1.2 _ m2) (tO hv _ m2)
     have B:=nI (iG f c f.bts[i]) (iG f c f.bts[k]) f.pack
     simp only[Fl.e,Cp.e,Bt.e,sc4,jA,jB] at S2 B
     simp only[h,n1,n2,Il,decide_true,decide_false,ja,jR,jX,jY,getD_map' Bt.e hk,List.getElem?_eq_getElem hk,Bool.true_and,Bool.false_or,sc4,call4,jI,jC,jD]
     simp only[Bt.e,jC,jD,S2,jI,B,C.B_b]
     cases better f.pack (iG f c f.bts[i]) (iG f c f.bts[k])<;>simp[cG.d1,w1 hi hlc])
  (by simp[cG.d2,Fl.e,Cp.e]) f.bts.length 0 rfl
 simp only[Fl.e,Cp.e,jA,jB,Int.natCast_zero,show iI f c 0=-1 from rfl] at h
 simp only[cG,cG.d4,Fl.e,Cp.e,jA,jB,apL,jC,jD,gl]
 rw[h]
 simp only[au,apL,jC,jD,cG.d3,C.I_i,C.L_l,jW]
 rcases tP f c f.bts.length (Nat.le_refl _) with h|⟨k,hk,h⟩
 ·simp[h]
  split<;>rfl
 ·have n1:¬((k:Int)<0):=by omega
  have n2:((k:Int)<(f.bts.length:Int)):=by omega
  simp only[h,n1,n2,decide_true,decide_false,jR,jS,jX,jY,getD_map' Bt.e hk,List.getElem?_eq_getElem hk,if_false,Bt.e,jC,jV]
end
end Go.Ev
namespace Go.Ev
theorem pN {b:Bt} (h:dy b=true):sEq b.name (mkS [])=false:=Bc h _ ((cF _ _).2 rfl)
section
variable {f:Fl} (hz:f.Sz 1048576) {c:Cp} (hc:c.Sz 1048576) (hv:VB f) (hr:0≤c.room∧c.room≤1000) (hh:0≤c.hold∧c.hold≤1000) (ha:0≤c.apart∧c.apart≤2)
include hz hc hv hr hh ha
end
section
variable {f:Fl} (hz:f.Sz 1048576) (cn:Str)
include hz
end
end Go.Ev
namespace Go.Ev
theorem oH {α:Type} (p:α→Bool):∀(l:List α) (n:Nat),fu p l n<0→l.any p=false
 |[],_,_=>rfl
 |x::r,n,h=>by
  simp only[fu] at h
  cases hp:p x with
  |true=>rw[hp,jR] at h;omega
  |false=>rw[hp,jS] at h;simp[hp,oH p r (n+1) h]
def Jm (f:Fl) (c:Cp):Bool:=!sEq c.at_ (mkS [])&&match f.bts[(bIx f c.at_).toNat]? with|some b=>!(eA f c b true==0)|none=>false
def JK (f:Fl) (i:Nat):List Str:=((f.cps.take i).filter (Jm f)).map Cp.name
def Hv (f:Fl):List Str:=bif bO f then JK f f.cps.length else []
section
variable {f:Fl} (hz:f.Sz 1048576)
include hz
end
end Go.Ev
namespace Go.Ev
end Go.Ev
namespace Go.Ev
end Go.Ev
namespace Go.Ev
end Go.Ev
namespace Go.Ev
end Go.Ev
namespace Go.Ev
end Go.Ev
namespace Go.Ev
end Go.Ev
namespace Go.Ev
theorem ltL {i n:Nat} (h:i<n):decide ((i:Int)<(n:Int))=true:=by simp;omega
end Go.Ev
namespace Go.Ev
theorem lK {α:Type} (e:α→List C) {l:List α} {i:Nat} (h:i<l.length):(l.take i).map e++[e l[i]]=(l.take (i+1)).map e:=by
 rw[List.take_succ_eq_append_getElem h,List.map_append];rfl
theorem tZ {b:Bt} (h:b.marks.length≤1048576):gj b.e=some b.o:=by
 have:b.marks.length≤4294967296:=by omega
 simp[gj,gj.d1,Bt.e,Bt.o,this]
theorem qg {b:Bt} (h:b.marks.length≤1048576):gw b.e=some b.o:=by
 have:b.marks.length≤4294967296:=by omega
 simp[gw,gw.d1,Bt.e,Bt.o,this]
theorem vB {c:Cp} (h:c.likes.length≤1048576):gy c.e=some c.o:=by
 have:c.likes.length≤4294967296:=by omega
 simp[gy,gy.d1,Cp.e,Cp.o,this]
theorem rz {c:Cp} (h:c.likes.length≤1048576):ic c.e=some c.o:=by
 have:c.likes.length≤4294967296:=by omega
 simp[ic,ic.d1,Cp.e,Cp.o,this]
section
variable {f:Fl} (hz:f.Sz 1048576)
include hz
theorem CI:dz f.e=some f.e:=by
 have hlb:f.bts.length<big:=by have:=hz.1.1;simp only[big];omega
 have hlc:f.cps.length<big:=by have:=hz.2.2.1;simp only[big];omega
 have h1:=bH (body:=apn 15 dz.d1) (S:=fun i=>[C.l (f.bts.map Bt.e),C.i (f.bts.length:Nat),C.i (i:Nat)]++f.e++[C.b false,C.b f.pack,.l af,.l af,.l af,C.l ((f.bts.take i).map Bt.e),C.l (f.svs.map Sv.e),.l af]) (n:=f.bts.length) (b:=0) (ys:=f.e++[C.b false,C.b f.pack,.l af,.l af,.l af,C.l ((f.bts.take f.bts.length).map Bt.e),C.l (f.svs.map Sv.e),.l af])
  (fun i hi=>by
   have hc:=tZ (hz.1.2 _ (List.getElem_mem hi)).2.2.1
   have hn:(f.bts.take i).length+1≤4294967296:=by rw[List.length_take];have:=hz.1.1;omega
   have sn:=lK Bt.e hi
   simp only[Bt.e,Bt.o] at hc
   simp only[Fl.e,jA,jB,apL,jC,jD,dz.d1,C.I_i,C.L_l,jW,jY,getD_map' Bt.e hi,ltL hi,decide_true,jR,jX,w1 hi hlb]
   simp only[Bt.e] at sn
   simp only[Bt.e,jC,jD,hc,call6,jI,C.L_l,rows,List.length_cons,List.length_nil,Nat.zero_add,hn,decide_true,jR,sn])
  (by simp[dz.d1,Fl.e]) f.bts.length 0 rfl
 have h2:=bH (body:=apn 11 dz.d2) (S:=fun i=>[C.l (f.cps.map Cp.e),C.i (f.cps.length:Nat),C.i (i:Nat)]++[C.b false,C.b f.pack,.l af,.l af,.l af,C.l (f.bts.map Bt.e),C.l (f.svs.map Sv.e),C.l ((f.cps.take i).map Cp.e)]) (n:=f.cps.length) (b:=2) (ys:=[C.b false,C.b f.pack,.l af,.l af,.l af,C.l (f.bts.map Bt.e),C.l (f.svs.map Sv.e),C.l ((f.cps.take f.cps.length).map Cp.e)])
  (fun i hi=>by
   have hc:=vB (hz.2.2.2 _ (List.getElem_mem hi)).2.2.2.2.2.2.1
   have hn:(f.cps.take i).length+1≤4294967296:=by rw[List.length_take];have:=hz.2.2.1;omega
   have sn:=lK Cp.e hi
   simp only[Cp.e,Cp.o] at hc
   simp only[jA,jB,apL,jC,jD,dz.d2,C.I_i,C.L_l,jW,jY,getD_map' Cp.e hi,ltL hi,decide_true,jR,jX,w1 hi hlc]
   simp only[Cp.e] at sn
   simp only[Cp.e,jC,jD,hc,call12,jI,C.L_l,rows,List.length_cons,List.length_nil,Nat.zero_add,hn,decide_true,jR,sn])
  (by simp[dz.d2]) f.cps.length 0 rfl
 have hs:f.svs.length≤4294967296:=by have:=hz.2.1.1;omega
 simp only[Fl.e,jA,jB,Int.natCast_zero,List.take_zero,List.map_nil,List.take_length] at h1 h2
 simp only[dz,dz.d5,Fl.e,apL,jC,jD,C.L_l,C.B_b,jW,hs,decide_true,jR]
 rw[show af=([]:List (List C)) from rfl] at h1 h2⊢
 rw[h1]
 simp only[au,apL,jC,jD,dz.d4,C.L_l,jW]
 rw[h2]
 simp[dz.d3]
theorem lI:cu f.e=some f.e:=by
 have hlb:f.bts.length<big:=by have:=hz.1.1;simp only[big];omega
 have hlc:f.cps.length<big:=by have:=hz.2.2.1;simp only[big];omega
 have h1:=bH (body:=apn 13 cu.d1) (S:=fun i=>[C.i (i:Nat)]++f.e++[C.b false,C.b f.pack,.l af,.l af,.l af,C.l ((f.bts.take i).map Bt.e),C.l (f.svs.map Sv.e),.l af]) (n:=f.bts.length) (b:=0) (ys:=f.e++[C.b false,C.b f.pack,.l af,.l af,.l af,C.l ((f.bts.take f.bts.length).map Bt.e),C.l (f.svs.map Sv.e),.l af])
  (fun i hi=>by
   have hc:=qg (hz.1.2 _ (List.getElem_mem hi)).2.2.1
   have hn:(f.bts.take i).length+1≤4294967296:=by rw[List.length_take];have:=hz.1.1;omega
   have sn:=lK Bt.e hi
   simp only[Bt.e,Bt.o] at hc
   simp only[Fl.e,jA,jB,apL,jC,jD,cu.d1,C.I_i,C.L_l,jW,jY,getD_map' Bt.e hi,ltL hi,decide_true,jR,jX,w1 hi hlb]
   simp only[Bt.e] at sn
   simp only[Bt.e,jC,jD,hc,call6,jI,C.L_l,rows,List.length_cons,List.length_nil,Nat.zero_add,hn,decide_true,jR,sn])
  (by simp[cu.d1,Fl.e]) f.bts.length 0 rfl
 have h2:=bH (body:=apn 13 cu.d2) (S:=fun i=>[C.i (i:Nat)]++f.e++[C.b false,C.b f.pack,.l af,.l af,.l af,C.l (f.bts.map Bt.e),C.l (f.svs.map Sv.e),C.l ((f.cps.take i).map Cp.e)]) (n:=f.cps.length) (b:=2) (ys:=[C.b false,C.b f.pack,.l af,.l af,.l af,C.l (f.bts.map Bt.e),C.l (f.svs.map Sv.e),C.l ((f.cps.take f.cps.length).map Cp.e)])
  (fun i hi=>by
   have hc:=rz (hz.2.2.2 _ (List.getElem_mem hi)).2.2.2.2.2.2.1
   have hn:(f.cps.take i).length+1≤4294967296:=by rw[List.length_take];have:=hz.2.2.1;omega
   have sn:=lK Cp.e hi
   simp only[Cp.e,Cp.o] at hc
   simp only[Fl.e,jA,jB,apL,jC,jD,cu.d2,C.I_i,C.L_l,jW,jY,getD_map' Cp.e hi,ltL hi,decide_true,jR,jX,w1 hi hlc]
   simp only[Cp.e] at sn
   simp only[Cp.e,jC,jD,hc,call12,jI,C.L_l,rows,List.length_cons,List.length_nil,Nat.zero_add,hn,decide_true,jR,sn])
  (by simp[cu.d2,Fl.e]) f.cps.length 0 rfl
 have hs:0+f.svs.length≤4294967296:=by have:=hz.2.1.1;omega
 simp only[Fl.e,jA,jB,Int.natCast_zero,List.take_zero,List.map_nil,List.take_length] at h1 h2
 rw[show af=([]:List (List C)) from rfl] at h1 h2
 simp only[cu,cu.d5,Fl.e,apL,jC,jD,C.L_l,C.B_b,jW,show af=([]:List (List C)) from rfl,List.length_nil,hs,decide_true,jR,jB]
 rw[h1]
 simp only[au,apL,jC,jD,cu.d4,C.L_l,jW]
 rw[h2]
 simp[cu.d3]
end
end Go.Ev
namespace Go.Ev
theorem pq:∀(a b c:List UInt8),Op.bytesLess a b=true→Op.bytesLess b c=true→Op.bytesLess a c=true
 |_,_,[],_,h2=>by cases ‹List UInt8›<;>simp[Op.bytesLess] at h2
 |_,[],_::_,h1,_=>by simp[Op.bytesLess] at h1
 |[],_::_,_::_,_,_=>by simp[Op.bytesLess]
 |x::a,y::b,z::c,h1,h2=>by
  simp only[Op.bytesLess,Bool.or_eq_true,Bool.and_eq_true,decide_eq_true_eq,beq_iff_eq] at h1 h2⊢
  have lt (p q:UInt8):p<q↔p.toNat<q.toNat:=Iff.rfl
  simp only[lt] at h1 h2⊢
  rcases h1 with h1|⟨rfl,h1⟩
  ·rcases h2 with h2|⟨rfl,h2⟩
   ·left;omega
   ·left;exact h1
  ·rcases h2 with h2|⟨rfl,h2⟩
   ·left;exact h2
   ·right;exact ⟨rfl,pq a b c h1 h2⟩
theorem rr:∀(a:List UInt8),Op.bytesLess a a=false
 |[]=>rfl
 |x::r=>by
  have ih:=rr r
  simp only[Op.bytesLess,ih]
  simp
theorem zS (a:Str):sLt a a=false:=rr _
theorem yQ {a b c:Str} (h1:sLt a b=true) (h2:sLt b c=true):sLt a c=true:=pq _ _ _ h1 h2
theorem DL {α:Type} {lt:α→α→Bool} {l:List α} (ht:∀a b c,lt a b=true→lt b c=true→lt a c=true) (h:∀i (h:i+1<l.length),lt (l[i]'(by omega)) l[i+1]=true):
  ∀(d i:Nat) (hj:i+d+1<l.length),lt (l[i]'(by omega)) l[i+d+1]=true
 |0,i,hj=>h i hj
 |d+1,i,hj=>ht _ _ _ (DL ht h d i (by omega)) (h (i+d+1) (by omega))
def wT (l:List Cp):Prop:=∀(i k:Nat) (hi:i<l.length) (hk:k<l.length),sEq l[i].name l[k].name=true→i=k
theorem GH {f:Fl} (h:bO f=true) (d i:Nat) (hj:i+d+1<f.cps.length):sLt (f.cps[i]'(by omega)).name f.cps[i+d+1].name=true:=by
 refine DL (lt:=fun a b:Cp=>sLt a.name b.name) (fun a b c=>yQ) (fun i hi=>?_) d i hj
 simp only[bO,Bool.and_eq_true] at h
 have:=(bX _ _ _).1 h.2.2.2.2.1 (i+1) (Nat.zero_le _) (by omega)
 have hi':i<f.cps.length:=by omega
 have e:(i+1==0)=false:=rfl
 simp only[cpA,List.getElem?_eq_getElem hi,Nat.add_sub_cancel,List.getElem?_eq_getElem hi',e,Bool.false_or,Bool.and_eq_true] at this
 exact this.2.2.1
theorem lv {f:Fl} (h:bO f=true):wT f.cps:=by
 have key:∀(i k:Nat) (hi:i<f.cps.length) (hk:k<f.cps.length),i<k→sEq f.cps[i].name f.cps[k].name=true→False:=by
  intro i k hi hk hlt he
  obtain ⟨d,rfl⟩:∃d,k=i+d+1:=⟨k-i-1,by omega⟩
  have:=GH h d i hk
  rw[(cF _ _).1 he,zS] at this
  exact absurd this (by decide)
 intro i k hi hk he
 rcases Nat.lt_trichotomy i k with h1|h1|h1
 ·exact (key i k hi hk h1 he).elim
 ·exact h1
 ·exact (key k i hk hi h1 (by rw[jz];exact he)).elim
def rP {α:Type} (g:α→α) (l:List α) (i:Nat):List α:=(l.take i).map g++l.drop i
theorem xk {α:Type} (g:α→α) (l:List α) (i:Nat):(rP g l i).length=l.length:=by simp[rP];omega
theorem Bi {α:Type} (g:α→α) {l:List α} {i:Nat} (h:i<l.length):(rP g l i)[i]?=some l[i]:=by
 simp only[rP]
 rw[List.getElem?_append_right (by simp;omega)]
 simp[Nat.min_eq_left (Nat.le_of_lt h),h]
theorem Bw {α:Type} (g:α→α) {l:List α} {i:Nat} (h:i<l.length):(rP g l i).set i (g l[i])=rP g l (i+1):=by
 have hl:((l.take i).map g).length=i:=by simp;omega
 simp only[rP]
 rw[List.set_append_right _ _ (by omega),hl,Nat.sub_self,List.drop_eq_getElem_cons h,List.set_cons_zero,List.take_succ_eq_append_getElem h,List.map_append,List.append_assoc]
 rfl
theorem Ft {α:Type} (g:α→α) {l:List α} {i:Nat} (h:i<l.length) (e:g l[i]=l[i]):rP g l (i+1)=rP g l i:=by
 rw[←Bw g h,e]
 refine List.ext_getElem? fun j=>?_
 rw[List.getElem?_set]
 split
 ·rename_i h1
  subst h1
  rw[xk,if_pos h,Bi g h]
 ·rfl
theorem G8 {α:Type} (g:α→α) (l:List α):rP g l l.length=l.map g:=by simp[rP]
theorem vZ {α:Type} (e:α→List C) {l:List α} {i:Nat} {x:α} (h:l[i]?=some x):(l.map e).getD i []=e x:=by
 rw[List.getD_eq_getElem?_getD,List.getElem?_map,h];rfl
def inS (g:List Str) (s:Str):Bool:=g.any fun x=>sEq s x
theorem oz (g:List Str) (s:Str) (hg:g.length≤1048576):bg [.l (g.map sE),.s s]=some [.i (fu (fun x=>sEq s x) g 0)]:=by
 have h:=kq (l:=g) (body:=apn 4 bg.d1) (S:=fun i=>[.l (g.map sE),.s s,.i (g.length:Nat),.i (i:Nat)]) (p:=fun x=>sEq s x) (b:=0)
  (fun i hi=>by
   simp only[apL,jC,jD,bg.d1,C.I_i,C.L_l,C.S_s,jW,jY,getD_map' sE hi,w1 hi (show g.length<big by simp only[big];omega),ltL hi,jR,jX,decide_true]
   simp only[sE,jC,C.S_s]
   show (bif sEq s g[i] then _ else _)=_
   cases sEq s g[i]<;>rfl)
  (by simp[bg.d1]) g.length 0 rfl
 simp only[bg,bg.d3,apL,jC,jD,C.L_l,jW]
 rw[show (fun xs:List C=>bg.d2)=fun _=>some (.ret [.i (-1)]) from rfl]
 simp only[Int.natCast_zero,List.drop_zero] at h
 rw[h];rfl
theorem my (g:List Str) (s:Str) (hg:g.length≤1048576):cS [.l (g.map sE),.s s]=some [.b (inS g s)]:=by
 have:decide (fu (fun x=>sEq s x) g 0≥0)=inS g s:=by
  have:=lT (fun x=>sEq s x) g 0
  unfold inS
  rw[←Bool.not_not (b:=g.any _),←this,←decide_not,decide_eq_decide]
  omega
 simp only[cS,cS.d1,apL,jC,jD,oz g s hg,ad,jI,C.I_i,this,jV]
def goC (g:List Str) (c:Cp):Cp:=bif inS g c.name then {c with at_:=mkS []} else c
def goF (f:Fl) (g:List Str):Fl:= {f with cps:=f.cps.map (goC g)}
theorem sf {f:Fl} (hz:f.Sz 1048576) (g:List Str):(goF f g).Sz 1048576:=by
 refine ⟨hz.1,hz.2.1,by simp only[goF,jW];exact hz.2.2.1,fun c hc=>?_⟩
 simp only[goF,List.mem_map] at hc
 obtain ⟨x,hx,rfl⟩:=hc
 have:=hz.2.2.2 x hx
 unfold goC
 cases inS g x.name with
 |false=>exact this
 |true=>exact ⟨this.1,this.2.1,this.2.2.1,this.2.2.2.1,this.2.2.2.2.1,(by simp[mkS];decide),this.2.2.2.2.2.2⟩
theorem Dq {f:Fl} (h:VB f) (g:List Str):VB (goF f g):=by
 refine ⟨by simp only[goF,jW];exact h.n60,fun c hc=>?_,h.bb⟩
 simp only[goF,List.mem_map] at hc
 obtain ⟨x,hx,rfl⟩:=hc
 have:=h.cb x hx
 unfold goC
 cases inS g x.name<;>exact this
section
variable {f:Fl} (hz:f.Sz 1048576) (g:List Str) (hg:g.length≤1048576)
include hz hg
theorem Ha:mu (f.e++[.l (g.map sE)])=some (goF f g).e:=by
 have hc:=CI hz
 have hlc:f.cps.length<big:=by have:=hz.2.2.1;simp only[big];omega
 have h:=bH (body:=apn 11 mu.d1) (S:=fun i=>[C.l (g.map sE),C.i (f.cps.length:Nat),C.i (i:Nat),C.b false,C.b f.pack,.l af,.l af,.l af,C.l (f.bts.map Bt.e),C.l (f.svs.map Sv.e),C.l ((rP (goC g) f.cps i).map Cp.e)]) (n:=f.cps.length) (b:=0) (ys:=[C.b false,C.b f.pack,.l af,.l af,.l af,C.l (f.bts.map Bt.e),C.l (f.svs.map Sv.e),C.l ((rP (goC g) f.cps f.cps.length).map Cp.e)])
  (fun i hi=>by
   have hx:=vZ Cp.e (Bi (goC g) hi)
   have hk:=my g f.cps[i].name hg
   simp only[apL,jC,jD,mu.d1,C.I_i,C.L_l,jW,xk,jY,hx,ltL hi,decide_true,jR,jX,w1 hi hlc]
   simp only[Cp.e,jC,hk,ad,jI,C.B_b]
   cases hin:inS g f.cps[i].name with
   |false=>
    rw[Ft (goC g) hi (by simp[goC,hin])];rfl
   |true=>
    rw[←Bw (goC g) hi,List.map_set]
    simp[goC,hin,Cp.e,aE,show bs #[]=mkS [] from rfl])
  (by simp[mu.d1,xk]) f.cps.length 0 rfl
 simp only[Fl.e,Int.natCast_zero,G8] at h hc
 have h0:rP (goC g) f.cps 0=f.cps:=by simp[rP]
 rw[h0] at h
 simp only[mu,mu.d3,Fl.e,jA,jB,apL,jC,jD,hc,call4,jI,C.L_l,jW,h,au,mu.d2,jV,goF]
theorem jw (hu:wT f.cps) (hin:∀j (h:j<g.length),∃k,∃hk:k<f.cps.length,cIx f g[j]=(k:Nat)∧sEq f.cps[k].name g[j]=true):cE (f.e++[.l (g.map sE)])=some (goF f g).e:=by
 have hc:=lI hz
 have hlg:g.length<big:=by simp only[big];omega
 have h:=bH (body:=apn 10 cE.d1) (S:=fun i=>[C.l (g.map sE),C.i (i:Nat),C.b false,C.b f.pack,.l af,.l af,.l af,C.l (f.bts.map Bt.e),C.l (f.svs.map Sv.e),C.l ((goF f (g.take i)).cps.map Cp.e)]) (n:=g.length) (b:=0) (ys:=[C.b false,C.b f.pack,.l af,.l af,.l af,C.l (f.bts.map Bt.e),C.l (f.svs.map Sv.e),C.l ((goF f (g.take g.length)).cps.map Cp.e)])
  (fun j hj=>by
   obtain ⟨k,hk,e1,e2⟩:=hin j hj
   have hlen:(goF f (g.take j)).cps.length=f.cps.length:=by simp[goF]
   have hix:cIx (goF f (g.take j)) g[j]=cIx f g[j]:=by
    unfold cIx goF
    generalize f.cps=l
    generalize 0=n
    induction l generalizing n with
    |nil=>rfl
    |cons x r ih=>
     have:(goC (g.take j) x).name=x.name:=by unfold goC;cases inS (g.take j) x.name<;>rfl
     simp only[List.map_cons,fu,this,ih]
   have hs:=fj (goF f (g.take j)) g[j] (sf hz _).2.2.1
   rw[hix,e1] at hs
   have hkc:(goF f (g.take j)).cps[k]?=some (goC (g.take j) f.cps[k]):=by simp[goF,hk]
   have hx:=vZ Cp.e hkc
   simp only[Fl.e,jA,jB,show (goF f (g.take j)).pack=f.pack from rfl,show (goF f (g.take j)).bts=f.bts from rfl,show (goF f (g.take j)).svs=f.svs from rfl] at hs
   simp only[apL,jC,jD,cE.d1,C.I_i,C.L_l,jW,jY,getD_map' sE hj,ltL hj,decide_true,jR,jX,w1 hj hlg]
   simp only[sE,jC,hs,ad,jI,C.I_i,jX,decide_true,jR,hlen,ltL hk,jY,hx]
   have hfin:((goF f (g.take j)).cps.map Cp.e).set k (aE (goC (g.take j) f.cps[k]).e 11 [.s (bs #[])])=(goF f (g.take (j+1))).cps.map Cp.e:=by
    have e3:aE (goC (g.take j) f.cps[k]).e 11 [.s (bs #[])]=({f.cps[k] with at_:=mkS []}:Cp).e:=by
     unfold goC
     cases inS (g.take j) f.cps[k].name<;>rfl
    rw[e3]
    refine List.ext_getElem? fun m=>?_
    rw[List.getElem?_set]
    simp only[jW,hlen]
    split
    ·rename_i h1
     subst h1
     have:inS (g.take (j+1)) f.cps[k].name=true:=by
      unfold inS
      rw[List.take_succ_eq_append_getElem hj,List.any_append]
      simp[e2]
     simp[hk,goF,goC,this]
    ·rename_i h1
     rcases Nat.lt_or_ge m f.cps.length with hm|hm
     ·have:inS (g.take (j+1)) f.cps[m].name=inS (g.take j) f.cps[m].name:=by
       unfold inS
       rw[List.take_succ_eq_append_getElem hj,List.any_append]
       have:sEq f.cps[m].name g[j]=false:=by
        cases hq:sEq f.cps[m].name g[j] with
        |false=>rfl
        |true=>
         rw[←(cF _ _).1 e2] at hq
         exact absurd (hu m k hm hk hq).symm h1
       simp[this]
      simp[hm,goF,goC,this]
     ·simp[goF,hm]
   rw[hfin])
  (by simp[cE.d1]) g.length 0 rfl
 have h0:(goF f (g.take 0)).cps=f.cps:=by
  simp only[goF,List.take_zero]
  have:goC []=id:=by funext c;rfl
  rw[this,List.map_id]
 simp only[Fl.e,Int.natCast_zero,h0,List.take_length] at h hc
 simp only[cE,cE.d3,Fl.e,jA,jB,apL,jC,jD,hc,call4,jI,C.L_l,jW,h,au,cE.d2,jV]
 rfl
end
end Go.Ev
namespace Go.Ev
structure Sp where
 copy:Str
 berth:Str
 gone:List Str
def Sp.e (s:Sp):List C:=[.s s.copy,.s s.berth,.l (s.gone.map sE)]
def Sp.Sz (K:Nat) (s:Sp):Prop:=s.copy.size≤K∧s.berth.size≤K∧tJ K s.gone
def fl0:Fl:=⟨false,[],[],[]⟩
def Gv (r:Fl×Bool):List C:=[.b r.1.pack,.b r.2,.l (r.1.bts.map Bt.e),.l (r.1.svs.map Sv.e),.l (r.1.cps.map Cp.e)]
def rq (f:Fl) (s:Sp) (j:Nat):Bool:=match f.cps[(cIx f (sAt s.gone j)).toNat]? with
 |some x=>sEq x.at_ s.berth
 |none=>false
def setAt (f:Fl) (i:Nat) (c:Cp) (b:Str):Fl:= {f with cps:=f.cps.set i {c with at_:=b}}
def doR (f:Fl) (s:Sp):Fl×Bool:=
 match f.cps[(cIx f s.copy).toNat]?,f.bts[(bIx f s.berth).toNat]? with
 |some c,some b=>bif bO f&&(decide (0≤cIx f s.copy)&&(decide (0≤bIx f s.berth)&&(sEq c.at_ (mkS [])&&(lq f s.gone&&(aA (rq f s) 0 s.gone.length&&(eA (goF f s.gone) c b false==0)))))) then (setAt (goF f s.gone) (cIx f s.copy).toNat c s.berth,true) else (fl0,false)
 |_,_=>(fl0,false)
theorem xu {g:List Str} {c:Cp} (h:sEq c.at_ (mkS [])=true):goC g c=c:=by
 unfold goC
 cases inS g c.name with
 |false=>rfl
 |true=>
  have:=(cF _ _).1 h
  cases c
  simp only[jR] at this⊢
  rw[this]
theorem BB {f:Fl} {g:List Str} (h:lq f g=true):∀j (hj:j<g.length),∃k,∃hk:k<f.cps.length,cIx f g[j]=(k:Nat)∧sEq f.cps[k].name g[j]=true:=by
 intro j hj
 simp only[lq,Bool.and_eq_true] at h
 have:=(bX _ _ _).1 h.1 j (Nat.zero_le _) (by omega)
 rw[iC,dX hj] at this
 rcases uw f g[j] with h|h
 ·have h':decide (0≤cIx f g[j])=false:=by simp;omega
  split at this<;>simp[h'] at this
 ·exact h
section
variable {f:Fl} (hz:f.Sz 1048576) {s:Sp} (hs:s.Sz 1048576)
include hz hs
theorem zL:eE (f.e++s.e)=some (Gv (doR f s)):=by
 have h1:=o6 f s.copy hz.2.2.1
 have h2:=kA f s.berth hz.1.1
 have h3:=pw hz
 have hgl:s.gone.length<big:=by have:=hs.2.2.1;simp only[big];omega
 simp only[Fl.e,jA,jB] at h1 h2 h3
 simp only[eE,eE.d3,Fl.e,Sp.e,jA,jB,apL,jC,jD,h1,h2,h3,ad,jI,C.I_i,C.B_b,C.L_l,C.S_s,jW,doR]
 rcases uw f s.copy with h|⟨i,hi,e1,_⟩
 ·have:¬0≤cIx f s.copy:=by omega
  simp only[h,this,decide_true,decide_false,jZ,jS,Bool.false_and,Bool.and_false]
  split<;>rfl
 have n1:¬((i:Int)<0):=by omega
 rcases tI f s.berth with h|⟨j,hj,e2,_⟩
 ·have:¬0≤bIx f s.berth:=by omega
  simp only[e1,n1,h,this,decide_true,decide_false,jZ,ja,jS,jR,Bool.false_and,Bool.and_false]
  split<;>rfl
 have n2:¬((j:Int)<0):=by omega
 have mi:=List.getElem_mem hi
 have mj:=List.getElem_mem hj
 simp only[e1,e2,n1,n2,jY,List.getElem?_eq_getElem hi,List.getElem?_eq_getElem hj,decide_false,decide_true,ja,jR,jX,ltL hi,getD_map' Cp.e hi,Bool.true_and]
 cases hv:bO f with
 |false=>rfl
 |true=>
  simp only[jZ,ja,jR,Bool.true_and]
  have q0:(((f.cps[i].e.getD 11 C.nil).S).toList==(bs #[]).toList)=sEq f.cps[i].at_ (mkS []):=rfl
  rw[q0]
  cases ha:sEq f.cps[i].at_ (mkS []) with
  |false=>rfl
  |true=>
   have hm:=CK hz hs.2.2 hv
   simp only[Fl.e,jA,jB] at hm
   simp only[jZ,ja,jR,hm,jI,jC,C.B_b,Bool.true_and]
   cases hg:lq f s.gone with
   |false=>rfl
   |true=>
    have hin:=BB hg
    have hl:=dA (body:=apn 16 eE.d1) (S:=fun k=>[C.i (i:Nat),C.i (j:Nat),C.l (s.gone.map sE),C.i (s.gone.length:Nat),C.i (k:Nat)]++f.e++s.e++[C.b false,.l af,.l af,.l af]) (p:=rq f s) (n:=s.gone.length) (b:=0) (ys:=[C.i (i:Nat),C.i (j:Nat)]++f.e++s.e++[C.b false,.l af,.l af,.l af]) (r:=[.b false,.b false,.l af,.l af,.l af])
     (fun k hk=>by
      obtain ⟨m,hm,e3,_⟩:=hin k hk
      have hcc:=o6 f s.gone[k] hz.2.2.1
      have hp:rq f s k=sEq f.cps[m].at_ s.berth:=by simp[rq,dX hk,e3,hm]
      simp only[Fl.e,jA,jB] at hcc
      simp only[Fl.e,Sp.e,jA,jB,apL,jC,jD,eE.d1,C.I_i,C.L_l,jW,ltL hk,decide_true,jR,jX,jY,getD_map' sE hk,w1 hk hgl,hp]
      simp only[sE,jC,hcc,ad,jI,C.I_i,e3,jX,decide_true,jR,ltL hm,jY,getD_map' Cp.e hm]
      show (bif !(sEq f.cps[m].at_ s.berth) then _ else _)=_
      cases sEq f.cps[m].at_ s.berth<;>rfl)
     (by simp[eE.d1,Fl.e,Sp.e]) s.gone.length 0 rfl
    simp only[Fl.e,Sp.e,jA,jB,Int.natCast_zero] at hl
    simp only[jZ,jS]
    rw[hl]
    cases hf:aA (rq f s) 0 s.gone.length with
    |false=>rfl
    |true=>
     have hgo:=Ha hz s.gone hs.2.2.1
     have hcs:(goF f s.gone).cps[i]?=some f.cps[i]:=by simp[goF,hi,xu ha]
     have hcl:(goF f s.gone).cps.length=f.cps.length:=by simp[goF]
     have hx:=vZ Cp.e hcs
     have F1:=DI (sf hz s.gone) (hz.2.2.2 _ mi) (hz.1.2 _ mj) ((eZ hv).bb _ mj) (Dq (eZ hv) s.gone) (kz (eZ hv) _ mi) (kv (eZ hv) _ mi) (tq (eZ hv) _ mi) true
     have fe:(((eA (goF f s.gone) f.cps[i] f.bts[j] false:Nat):Int) !=0)=!(eA (goF f s.gone) f.cps[i] f.bts[j] false==0):=by rw[Bool.eq_iff_iff,bne_iff_ne,Bool.not_eq_true',beq_eq_false_iff_ne];omega
     simp only[Fl.e,Cp.e,Bt.e,jA,jB,jZ] at hgo F1
     simp only[jR,au,apL,jC,jD,eE.d2,hgo,call4,jI,C.I_i,C.L_l,jW,hcl,jX,decide_true,ltL hi,jY,hx,show (goF f s.gone).bts=f.bts from rfl,ltL hj,getD_map' Bt.e hj,Bool.true_and]
     simp only[Cp.e,Bt.e,jC,jD,show (goF f s.gone).bts=f.bts from rfl] at F1⊢
     simp only[F1,ad,jI,jC,C.I_i,fe]
     cases eA (goF f s.gone) f.cps[i] f.bts[j] false==0 with
     |false=>rfl
     |true=>
      simp only[jZ,jS,jV,jR,Gv,setAt,List.map_set]
      rfl
theorem Ai:eI (f.e++s.e)=some (Gv (doR f s)):=by
 have h1:=fj f s.copy hz.2.2.1
 have h2:=iw f s.berth hz.1.1
 have h3:=gP hz
 have hgl:s.gone.length<big:=by have:=hs.2.2.1;simp only[big];omega
 simp only[Fl.e,jA,jB] at h1 h2 h3
 simp only[eI,eI.d3,Fl.e,Sp.e,jA,jB,apL,jC,jD,h1,h2,h3,ad,jI,C.I_i,C.B_b,C.L_l,C.S_s,jW,doR]
 cases hv:bO f with
 |false=>simp only[ja,jZ,Bool.false_and,jS];split<;>rfl
 |true=>
 simp only[jZ,ja,jR,Bool.true_and]
 rcases uw f s.copy with h|⟨i,hi,e1,_⟩
 ·have:¬0≤cIx f s.copy:=by omega
  simp only[h,this,decide_true,decide_false,jZ,jS,Bool.false_and,Bool.and_false]
  split<;>rfl
 have n1:¬((i:Int)<0):=by omega
 rcases tI f s.berth with h|⟨j,hj,e2,_⟩
 ·have:¬0≤bIx f s.berth:=by omega
  simp only[e1,n1,h,this,decide_true,decide_false,jZ,ja,jS,jR,Bool.false_and,Bool.and_false]
  split<;>rfl
 have n2:¬((j:Int)<0):=by omega
 have mi:=List.getElem_mem hi
 have mj:=List.getElem_mem hj
 simp only[e1,e2,n1,n2,jY,List.getElem?_eq_getElem hi,List.getElem?_eq_getElem hj,decide_false,decide_true,ja,jR,jX,ltL hi,getD_map' Cp.e hi,Bool.true_and]
 focus
  skip
  have q0:(((f.cps[i].e.getD 11 C.nil).S).toList==(bs #[]).toList)=sEq f.cps[i].at_ (mkS []):=rfl
  rw[q0]
  cases ha:sEq f.cps[i].at_ (mkS []) with
  |false=>rfl
  |true=>
   have hm:=sw hz hs.2.2 hv
   simp only[Fl.e,jA,jB] at hm
   simp only[jZ,ja,jR,hm,jI,jC,C.B_b,Bool.true_and]
   cases hg:lq f s.gone with
   |false=>rfl
   |true=>
    have hin:=BB hg
    have hl:=dA (body:=apn 14 eI.d1) (S:=fun k=>[C.i (i:Nat),C.i (j:Nat),C.i (k:Nat)]++f.e++s.e++[C.b false,.l af,.l af,.l af]) (p:=rq f s) (n:=s.gone.length) (b:=0) (ys:=[C.i (i:Nat),C.i (j:Nat)]++f.e++s.e++[C.b false,.l af,.l af,.l af]) (r:=[.b false,.b false,.l af,.l af,.l af])
     (fun k hk=>by
      obtain ⟨m,hm,e3,_⟩:=hin k hk
      have hcc:=fj f s.gone[k] hz.2.2.1
      have hp:rq f s k=sEq f.cps[m].at_ s.berth:=by simp[rq,dX hk,e3,hm]
      simp only[Fl.e,jA,jB] at hcc
      simp only[Fl.e,Sp.e,jA,jB,apL,jC,jD,eI.d1,C.I_i,C.L_l,jW,ltL hk,decide_true,jR,jX,jY,getD_map' sE hk,w1 hk hgl,hp]
      simp only[sE,jC,hcc,ad,jI,C.I_i,e3,jX,decide_true,jR,ltL hm,jY,getD_map' Cp.e hm]
      show (bif !(sEq f.cps[m].at_ s.berth) then _ else _)=_
      cases sEq f.cps[m].at_ s.berth<;>rfl)
     (by simp[eI.d1,Fl.e,Sp.e]) s.gone.length 0 rfl
    simp only[Fl.e,Sp.e,jA,jB,Int.natCast_zero] at hl
    simp only[jZ,jS]
    rw[hl]
    cases hf:aA (rq f s) 0 s.gone.length with
    |false=>rfl
    |true=>
     have hgo:=jw hz s.gone hs.2.2.1 (lv hv) hin
     have hcs:(goF f s.gone).cps[i]?=some f.cps[i]:=by simp[goF,hi,xu ha]
     have hcl:(goF f s.gone).cps.length=f.cps.length:=by simp[goF]
     have hx:=vZ Cp.e hcs
     have F1:=mQ (sf hz s.gone) (hz.2.2.2 _ mi) (hz.1.2 _ mj) ((eZ hv).bb _ mj) (Dq (eZ hv) s.gone) (kz (eZ hv) _ mi) (kv (eZ hv) _ mi) false
     have fe:(((eA (goF f s.gone) f.cps[i] f.bts[j] false:Nat):Int) !=0)=!(eA (goF f s.gone) f.cps[i] f.bts[j] false==0):=by rw[Bool.eq_iff_iff,bne_iff_ne,Bool.not_eq_true',beq_eq_false_iff_ne];omega
     simp only[Fl.e,Cp.e,Bt.e,jA,jB,jZ] at hgo F1
     simp only[jR,au,apL,jC,jD,eI.d2,hgo,call4,jI,C.I_i,C.L_l,jW,hcl,jX,decide_true,ltL hi,jY,hx,show (goF f s.gone).bts=f.bts from rfl,ltL hj,getD_map' Bt.e hj,getD_map' Cp.e hi,Bool.true_and]
     simp only[Cp.e,Bt.e,jC,jD,show (goF f s.gone).bts=f.bts from rfl] at F1⊢
     simp only[F1,ad,jI,jC,C.I_i,fe]
     cases eA (goF f s.gone) f.cps[i] f.bts[j] false==0 with
     |false=>rfl
     |true=>
      simp only[jZ,jS,jV,jR,Gv,setAt,List.map_set]
      rfl
end
end Go.Ev
namespace Go.Ev
theorem Gs:fl0.Sz 1048576:=by refine ⟨⟨by simp[fl0],fun _ h=>?_⟩,⟨by simp[fl0],fun _ h=>?_⟩,by simp[fl0],fun _ h=>?_⟩<;>simp[fl0] at h
theorem B0 {f:Fl} (hz:f.Sz 1048576) {c:Cp} (hc:c.Sz 1048576) {b:Str} (hb:b.size≤1048576) (i:Nat):(setAt f i c b).Sz 1048576:=by
 refine ⟨hz.1,hz.2.1,by simp only[setAt,List.length_set];exact hz.2.2.1,fun x hx=>?_⟩
 simp only[setAt] at hx
 rcases List.mem_or_eq_of_mem_set hx with h|rfl
 ·exact hz.2.2.2 x h
 ·exact ⟨hc.1,hc.2.1,hc.2.2.1,hc.2.2.2.1,hc.2.2.2.2.1,hb,hc.2.2.2.2.2.2⟩
theorem Jq {f:Fl} (hz:f.Sz 1048576) {s:Sp} (hs:s.Sz 1048576):(doR f s).1.Sz 1048576:=by
 unfold doR
 split
 ·rename_i c b h1 h2
  have hc:=hz.2.2.2 c (List.mem_of_getElem? h1)
  generalize (bO f&&_)=q
  cases q with
  |false=>exact Gs
  |true=>exact B0 (sf hz _) hc hs.2.1 _
 ·exact Gs
end Go.Ev
namespace Go.Ev
def kM (r:Int) (l:List Int):Nat:=(l.takeWhile fun x=>decide (x≥r)).length
def AE (r:Int) (l:List Int):List Int:=l.take (kM r l)++r::l.drop (kM r l)
def hJ (l:List Int):List Int:=l.foldl (fun a r=>AE r a) []
theorem takeN {α:Type} (p:α→Bool):∀l:List α,l.take (l.takeWhile p).length=l.takeWhile p∧l.drop (l.takeWhile p).length=l.dropWhile p
 |[]=>⟨rfl,rfl⟩
 |x::r=>by
  have ih:=takeN p r
  cases h:p x<;>simp[List.takeWhile,List.dropWhile,h,ih]
theorem AB (r:Int) (l:List Int):kM r l≤l.length:=(List.takeWhile_sublist _).length_le
theorem EZ (r:Int) (l:List Int):(AE r l).Perm (r::l):=by
 have h:=List.perm_middle (a:=r) (l₁:=l.take (kM r l)) (l₂:=l.drop (kM r l))
 rw[List.take_append_drop] at h
 exact h
theorem oQ {p:Int→Bool} {R:Int→Int→Prop}:∀ {l:List Int},(∀x,x∈l.takeWhile p→p x=true)
 |[],x,h=>by simp at h
 |y::r,x,h=>by
  cases hp:p y with
  |false=>simp[List.takeWhile,hp] at h
  |true=>
   simp only[List.takeWhile,hp,List.mem_cons] at h
   rcases h with rfl|h
   ·exact hp
   ·exact oQ (R:=R) x h
theorem Bk (r:Int) {l:List Int} (h:l.Pairwise (·≥·)):(AE r l).Pairwise (·≥·):=by
 obtain ⟨e1,e2⟩:=takeN (fun x:Int=>decide (x≥r)) l
 unfold AE kM
 rw[e1,e2]
 have h0:=h
 rw[←List.takeWhile_append_dropWhile (p:=fun x:Int=>decide (x≥r)) (l:=l),List.pairwise_append] at h0
 obtain ⟨h1,h2,h3⟩:=h0
 refine List.pairwise_append.2 ⟨h1,List.pairwise_cons.2 ⟨fun y hy=>?_,h2⟩,fun x hx y hy=>?_⟩
 ·cases hd:l.dropWhile (fun x:Int=>decide (x≥r)) with
  |nil=>rw[hd] at hy;simp at hy
  |cons z t=>
   have hz:¬z≥r:=by
    have:=List.head_dropWhile_not (p:=fun x:Int=>decide (x≥r)) (l:=l) (by rw[hd];simp)
    simp only[hd,List.head_cons,decide_eq_false_iff_not] at this
    exact this
   rw[hd] at hy h2
   rcases List.mem_cons.1 hy with rfl|hy
   ·omega
   ·have:=(List.pairwise_cons.1 h2).1 y hy
    omega
 ·have hx':x≥r:=by simpa using oQ (R:=(·≥·)) x hx
  rcases List.mem_cons.1 hy with rfl|hy
  ·exact hx'
  ·exact h3 x hx y hy
theorem za:∀(l a:List Int),a.Pairwise (·≥·)→(l.foldl (fun a r=>AE r a) a).Pairwise (·≥·)∧(l.foldl (fun a r=>AE r a) a).Perm (l++a)
 |[],a,h=>⟨h,.refl _⟩
 |r::l,a,h=>by
  obtain ⟨h1,h2⟩:=za l (AE r a) (Bk r h)
  exact ⟨h1,h2.trans (((EZ r a).append_left l).trans List.perm_middle)⟩
theorem B3 (l:List Int) (r:Int):hJ (l++[r])=AE r (hJ l):=by simp[hJ,List.foldl_append]
theorem yf (l:List Int):(hJ l).length=l.length:=by
 have:=(za l [] .nil).2.length_eq
 simpa [hJ] using this
end Go.Ev
namespace Go.Ev
def zV (f:Fl) (s:Str):Int:=match f.cps[(cIx f s).toNat]? with|some c=>c.rank|none=>0
def ua (f:Fl) (g:List Str) (j:Nat):Bool:=decide (0≤cIx f (sAt g j))
def fE (f:Fl) (g:List Str):List Int:=g.map (zV f)
theorem HG {f:Fl} {g:List Str} {j:Nat} (hj:j<g.length):(ua f g j=false∧cIx f g[j]<0)∨(ua f g j=true∧∃k,∃hk:k<f.cps.length,cIx f g[j]=(k:Nat)∧zV f g[j]=f.cps[k].rank):=by
 rw[ua,dX hj]
 rcases uw f g[j] with h|⟨k,hk,h,_⟩
 ·exact .inl ⟨by simp;omega,h⟩
 ·exact .inr ⟨by rw[h];simp,k,hk,h,by simp[zV,h,hk]⟩
theorem CX (f:Fl) {g:List Str} {j:Nat} (hj:j<g.length):fE f (g.take (j+1))=fE f (g.take j)++[zV f g[j]]:=by
 rw[fE,List.take_succ_eq_append_getElem hj,List.map_append];rfl
theorem Fi (f:Fl) (g:List Str) (j:Nat):(fE f (g.take j)).length≤g.length:=by
 rw[fE,jW,List.length_take];omega
section
variable {f:Fl} (hz:f.Sz 1048576) (g:List Str) (hg:tJ 1048576 g)
include hz hg
theorem Hc (r:Int) (l:List Int) (hl:l.length≤1048576) (a b c:C):lim (apn 9 cH.d1) ([a,b,.i r,.i 0]++f.e++[.l (l.map iE)])=some (.brk 2 ([a,b,.i r,.i (kM r l:Nat)]++f.e++[.l (l.map iE)])):=by
 have hlb:l.length<big:=by simp only[big];omega
 have hle:=AB r l
 obtain ⟨e1,e2⟩:=takeN (fun x:Int=>decide (x≥r)) l
 have h:=bH (body:=apn 9 cH.d1) (S:=fun k=>[a,b,.i r,.i (k:Nat)]++f.e++[C.l (l.map iE)]) (n:=kM r l) (b:=2) (ys:=[a,b,.i r,.i (kM r l:Nat)]++f.e++[C.l (l.map iE)])
  (fun k hk=>by
   have hk':k<l.length:=by omega
   have hge:l[k]≥r:=by
    have h1:(l.takeWhile fun x:Int=>decide (x≥r))[k]'hk=l[k]:=by
     have:=(List.takeWhile_prefix (fun x:Int=>decide (x≥r)) (l:=l)).getElem hk
     exact this
    have:=oQ (p:=fun x:Int=>decide (x≥r)) (R:=(·≥·)) _ (List.getElem_mem hk)
    rw[h1] at this
    simpa using this
   simp only[Fl.e,jA,jB,apL,jC,jD,cH.d1,C.I_i,C.L_l,jW,ltL hk',decide_true,jR,jX,jY,getD_map' iE hk',w1 hk' hlb]
   simp only[iE,jC,C.I_i,hge,decide_true,jR])
  (by
   simp only[Fl.e,jA,jB,apL,jC,jD,cH.d1,C.I_i,C.L_l,jW]
   rcases Nat.lt_or_ge (kM r l) l.length with h|h
   ·have hlt:¬l[kM r l]≥r:=by
     have hd:l.drop (kM r l)=l.dropWhile fun x:Int=>decide (x≥r):=e2
     have hne:l.dropWhile (fun x:Int=>decide (x≥r))≠[]:=by rw[←hd];intro h0;rw[List.drop_eq_nil_iff] at h0;omega
     have:=List.head_dropWhile_not (p:=fun x:Int=>decide (x≥r)) (l:=l) hne
     have h5:(l.drop (kM r l)).head (by rw[hd];exact hne)=l[kM r l]:=by simp[List.head_drop]
     simp only[←hd,h5,decide_eq_false_iff_not] at this
     exact this
    simp only[ltL h,decide_true,jR,jX,jY,getD_map' iE h]
    simp only[iE,jC,C.I_i,hlt,decide_false,jS]
   ·have:¬(((kM r l:Nat):Int)<(l.length:Int)):=by omega
    simp only[this,decide_false,jS]) (kM r l) 0 rfl
 exact h
theorem mE (ht:aA (ua f g) 0 g.length=true):cH (f.e++[.l (g.map sE)])=some [.l ((hJ (fE f g)).map iE)]:=by
 have hgl:g.length<big:=by have:=hg.1;simp only[big];omega
 have h:=bH (body:=apn 7 cH.d3) (S:=fun k=>[C.l (g.map sE),C.i (k:Nat)]++f.e++[C.l ((hJ (fE f (g.take k))).map iE)]) (n:=g.length) (b:=0) (ys:=[C.l ((hJ (fE f (g.take g.length))).map iE)])
  (fun k hk=>by
   have hc:=fj f g[k] hz.2.2.1
   have hln:=Fi f g k
   have hil:(hJ (fE f (g.take k))).length≤1048576:=by rw[yf];have:=hg.1;omega
   have hin:=AB
   simp only[Fl.e,jA,jB] at hc
   simp only[Fl.e,jA,jB,apL,jC,jD,cH.d3,C.I_i,C.L_l,jW,ltL hk,decide_true,jR,jX,jY,getD_map' sE hk]
   simp only[sE,jC,hc,ad,jI,C.I_i]
   rcases HG (f:=f) hk with ⟨e1,e2⟩|⟨e1,m,hm,e2,e3⟩
   ·have:=(bX _ _ _).1 ht k (Nat.zero_le _) (by omega)
    rw[e1] at this;cases this
   ·have hr:(f.cps[m].e).getD 2 C.nil=.i f.cps[m].rank:=rfl
    have hI:=Hc hz g hg f.cps[m].rank _ hil (.l (g.map sE)) (.i (k:Nat)) .nil
    have hN:=AB f.cps[m].rank (hJ (fE f (g.take k)))
    simp only[Fl.e,jA,jB] at hI
    simp only[e2,decide_true,jR,jX,ltL hm,jY,getD_map' Cp.e hm,hr,CX f hk,B3,e3]
    generalize hJ (fE f (g.take k))=L at hI hil hN⊢
    generalize f.cps[m].rank=r at hI hN⊢
    rw[hI]
    have q1:((kM r L:Nat):Int)≤(L.length:Int):=by omega
    have q2:0+(kM r L)≤4294967296:=by omega
    have q3:min (kM r L) L.length=kM r L:=by omega
    have q4:0+kM r L+(0+1)≤4294967296:=by omega
    have q5:0+kM r L+(0+1)+(L.length-kM r L)≤4294967296:=by omega
    simp only[au,apL,jC,jD,cH.d2,C.I_i,C.L_l,jW,q1,jX,decide_true,jR,jY,rows,List.length_append,List.length_drop,List.length_take,Nat.sub_zero,List.length_cons,List.length_nil,q2,q3,q4,q5,Int.le_refl,Nat.min_self,w1 hk hgl,List.drop_zero,jB]
    have p1:kM r L≤4294967295:=by omega
    have p2:kM r L+1+(L.length-kM r L)≤4294967296:=by omega
    simp[AE,iE,List.map_take,List.map_drop,List.take_of_length_le,p1,p2])
  (by simp[cH.d3,Fl.e]) g.length 0 rfl
 simp only[Fl.e,jA,jB,Int.natCast_zero,List.take_zero,List.take_length,show hJ (fE f [])=[] from rfl,List.map_nil] at h
 simp only[cH,cH.d5,Fl.e,jA,jB,apL,jC,jD,show af=([]:List (List C)) from rfl,h,au,cH.d4,C.L_l,jV]
end
end Go.Ev
namespace Go.Ev
section
variable {α:Type} (lt:α→α→Bool)
def kL (c:α) (l:List α):Nat:=(l.takeWhile fun x=>lt x c).length
def zW (c:α) (l:List α):List α:=l.take (kL lt c l)++c::l.drop (kL lt c l)
def vO (l:List α):List α:=l.foldl (fun a c=>zW lt c a) []
theorem DS (c:α) (l:List α):kL lt c l≤l.length:=(List.takeWhile_sublist _).length_le
theorem Fp (c:α) (l:List α):(zW lt c l).Perm (c::l):=by
 have h:=List.perm_middle (a:=c) (l₁:=l.take (kL lt c l)) (l₂:=l.drop (kL lt c l))
 rw[List.take_append_drop] at h
 exact h
theorem Di {p:α→Bool}:∀ {l:List α} (x:α),x∈l.takeWhile p→p x=true
 |[],x,h=>by simp at h
 |y::r,x,h=>by
  cases hp:p y with
  |false=>simp[List.takeWhile,hp] at h
  |true=>
   simp only[List.takeWhile,hp,List.mem_cons] at h
   rcases h with rfl|h
   ·exact hp
   ·exact Di x h
theorem Cu (irr:∀x,lt x x=false) (trans:∀x y z,lt x y=true→lt y z=true→lt x z=true) (ntr:∀x y z,lt x y=false→lt y z=false→lt x z=false)
  (c:α) {l:List α} (h:l.Pairwise fun x y=>lt y x=false):(zW lt c l).Pairwise fun x y=>lt y x=false:=by
 obtain ⟨e1,e2⟩:=takeN (fun x=>lt x c) l
 unfold zW kL
 rw[e1,e2]
 have h0:=h
 rw[←List.takeWhile_append_dropWhile (p:=fun x=>lt x c) (l:=l),List.pairwise_append] at h0
 obtain ⟨h1,h2,h3⟩:=h0
 have hz:∀y,y∈l.dropWhile (fun x=>lt x c)→lt y c=false:=by
  intro y hy
  cases hd:l.dropWhile (fun x=>lt x c) with
  |nil=>rw[hd] at hy;simp at hy
  |cons z t=>
   have hz:lt z c=false:=by
    have:=List.head_dropWhile_not (p:=fun x=>lt x c) (l:=l) (by rw[hd];simp)
    simpa only[hd,List.head_cons] using this
   rw[hd] at hy h2
   rcases List.mem_cons.1 hy with rfl|hy
   ·exact hz
   ·exact ntr _ _ _ ((List.pairwise_cons.1 h2).1 y hy) hz
 refine List.pairwise_append.2 ⟨h1,List.pairwise_cons.2 ⟨hz,h2⟩,fun x hx y hy=>?_⟩
 have hx':lt x c=true:=Di x hx
 rcases List.mem_cons.1 hy with rfl|hy
 ·cases hq:lt y x with
  |false=>rfl
  |true=>
   have:=trans _ _ _ hx' hq
   rw[irr] at this;cases this
 ·exact h3 x hx y hy
theorem AP (irr:∀x,lt x x=false) (trans:∀x y z,lt x y=true→lt y z=true→lt x z=true) (ntr:∀x y z,lt x y=false→lt y z=false→lt x z=false):
  ∀(l a:List α),(a.Pairwise fun x y=>lt y x=false)→((l.foldl (fun a c=>zW lt c a) a).Pairwise fun x y=>lt y x=false)∧(l.foldl (fun a c=>zW lt c a) a).Perm (l++a)
 |[],a,h=>⟨h,.refl _⟩
 |c::l,a,h=>by
  obtain ⟨h1,h2⟩:=AP irr trans ntr l (zW lt c a) (Cu lt irr trans ntr c h)
  exact ⟨h1,h2.trans (((Fp lt c a).append_left l).trans List.perm_middle)⟩
theorem FA (l:List α) (c:α):vO lt (l++[c])=zW lt c (vO lt l):=by simp[vO,List.foldl_append]
end
def ahd (a b:Cp):Bool:=ltE a.rank a.born a.name b.rank b.born b.name
theorem DY (x:Cp):ahd x x=false:=IK _ _ _
theorem zF (x y z:Cp):ahd x y=true→ahd y z=true→ahd x z=true:=zI
theorem EH (x y z:Cp):ahd x y=false→ahd y z=false→ahd x z=false:=Df
def hS (c:Cp):Bool:=sEq c.at_ (mkS [])
def waits (f:Fl):List Cp:=f.cps.filter hS
def queue (f:Fl):List Cp:=vO ahd (waits f)
theorem oC (f:Fl):(queue f).Perm (waits f):=by
 have:=(AP ahd DY zF EH (waits f) [] .nil).2
 rwa [List.append_nil] at this
theorem nx {f:Fl} {c:Cp} (h:c∈queue f):c∈f.cps∧hS c=true:=by
 have:=(oC f).mem_iff.1 h
 exact List.mem_filter.1 this
theorem BJ {l:List Cp} (hu:wT l) {x y:Cp} (hx:x∈l) (hy:y∈l) (h:sEq x.name y.name=true):x=y:=by
 obtain ⟨i,hi,rfl⟩:=List.getElem_of_mem hx
 obtain ⟨k,hk,rfl⟩:=List.getElem_of_mem hy
 have:=hu i k hi hk h
 subst this;rfl
theorem DR (f:Fl) {i:Nat} (h:i<f.cps.length):(f.cps.take (i+1)).filter hS=bif hS f.cps[i] then (f.cps.take i).filter hS++[f.cps[i]] else (f.cps.take i).filter hS:=by
 rw[List.take_succ_eq_append_getElem h,List.filter_append]
 cases hw:hS f.cps[i]<;>simp[hw]
theorem Fc (f:Fl) (i:Nat):((f.cps.take i).filter hS).length≤f.cps.length:=
 Nat.le_trans (List.length_filter_le _ _) (by rw[List.length_take];omega)
theorem AK (a b:Cp):jk (a.e++b.e)=some [.b (ahd a b)]:=by
 simp only[jk,jk.d1,Cp.e,jA,jB,apL,jC,jD,C.I_i,C.S_s,ahd,ltE,eL]
 by_cases e1:a.rank=b.rank
 ·by_cases e2:a.born=b.born
  ·simp[e1,e2]
  ·have:(a.born !=b.born)=true:=by simp[e2]
   have q:(a.born==b.born)=false:=by simp[e2]
   simp[e1,this,q]
 ·have:(a.rank !=b.rank)=true:=by simp[e1]
  have q:(a.rank==b.rank)=false:=by simp[e1]
  simp[this,q]
section
variable {f:Fl} (hz:f.Sz 1048576)
include hz
end
end Go.Ev
namespace Go.Ev
theorem Jj (c:Cp):[c.e.getD 0 .nil,c.e.getD 1 .nil,c.e.getD 2 .nil,c.e.getD 3 .nil,c.e.getD 4 .nil,c.e.getD 5 .nil,c.e.getD 6 .nil,c.e.getD 7 .nil,c.e.getD 8 .nil,c.e.getD 9 .nil,c.e.getD 10 .nil,c.e.getD 11 .nil]=c.e:=rfl
section
variable {f:Fl} (hz:f.Sz 1048576)
include hz
theorem GL {i:Nat} (hi:i<f.cps.length) (L:List Cp) (hL:L.length≤60):lim (apn 7 bl.d1) ([.i (i:Nat),.i 0]++f.e++[.l (L.map Cp.e)])=some (.brk 2 ([.i (i:Nat),.i (kL ahd f.cps[i] L:Nat)]++f.e++[.l (L.map Cp.e)])):=by
 have hlb:L.length<big:=by simp only[big];omega
 have hle:=DS ahd f.cps[i] L
 obtain ⟨e1,e2⟩:=takeN (fun x=>ahd x f.cps[i]) L
 have hA:∀a:Cp,jk [a.e.getD 0 .nil,a.e.getD 1 .nil,a.e.getD 2 .nil,a.e.getD 3 .nil,a.e.getD 4 .nil,a.e.getD 5 .nil,a.e.getD 6 .nil,a.e.getD 7 .nil,a.e.getD 8 .nil,a.e.getD 9 .nil,a.e.getD 10 .nil,a.e.getD 11 .nil,f.cps[i].e.getD 0 .nil,f.cps[i].e.getD 1 .nil,f.cps[i].e.getD 2 .nil,f.cps[i].e.getD 3 .nil,f.cps[i].e.getD 4 .nil,f.cps[i].e.getD 5 .nil,f.cps[i].e.getD 6 .nil,f.cps[i].e.getD 7 .nil,f.cps[i].e.getD 8 .nil,f.cps[i].e.getD 9 .nil,f.cps[i].e.getD 10 .nil,f.cps[i].e.getD 11 .nil]=some [.b (ahd a f.cps[i])]:=fun a=>AK a f.cps[i]
 have h:=bH (body:=apn 7 bl.d1) (S:=fun k=>[.i (i:Nat),.i (k:Nat)]++f.e++[C.l (L.map Cp.e)]) (n:=kL ahd f.cps[i] L) (b:=2) (ys:=[.i (i:Nat),.i (kL ahd f.cps[i] L:Nat)]++f.e++[C.l (L.map Cp.e)])
  (fun k hk=>by
   have hk':k<L.length:=by omega
   have hge:ahd L[k] f.cps[i]=true:=by
    have h1:(L.takeWhile fun x=>ahd x f.cps[i])[k]'hk=L[k]:=(List.takeWhile_prefix (fun x=>ahd x f.cps[i]) (l:=L)).getElem hk
    have:=Di (p:=fun x=>ahd x f.cps[i]) _ (List.getElem_mem hk)
    rw[h1] at this
    exact this
   simp only[Fl.e,jA,jB,apL,jC,jD,bl.d1,C.I_i,C.L_l,jW,ltL hk',ltL hi,decide_true,jR,jX,jY,getD_map' Cp.e hk',getD_map' Cp.e hi,w1 hk' hlb,hA,ad,jI,C.B_b,hge])
  (by
   simp only[Fl.e,jA,jB,apL,jC,jD,bl.d1,C.I_i,C.L_l,jW]
   rcases Nat.lt_or_ge (kL ahd f.cps[i] L) L.length with h|h
   ·have hlt:ahd L[kL ahd f.cps[i] L] f.cps[i]=false:=by
     have hd:L.drop (kL ahd f.cps[i] L)=L.dropWhile fun x=>ahd x f.cps[i]:=e2
     have hne:L.dropWhile (fun x=>ahd x f.cps[i])≠[]:=by rw[←hd];intro h0;rw[List.drop_eq_nil_iff] at h0;omega
     have:=List.head_dropWhile_not (p:=fun x=>ahd x f.cps[i]) (l:=L) hne
     have h5:(L.drop (kL ahd f.cps[i] L)).head (by rw[hd];exact hne)=L[kL ahd f.cps[i] L]:=by simp[List.head_drop]
     simp only[←hd,h5] at this
     exact this
    simp only[ltL h,ltL hi,decide_true,jR,jX,jY,getD_map' Cp.e h,getD_map' Cp.e hi,hA,ad,jI,jC,C.B_b,hlt,jS]
   ·have:¬(((kL ahd f.cps[i] L:Nat):Int)<(L.length:Int)):=by omega
    simp only[this,decide_false,jS]) (kL ahd f.cps[i] L) 0 rfl
 exact h
theorem sm (hv:VB f):bl f.e=some [.l (((queue f).map Cp.name).map sE)]:=by
 have hlc:f.cps.length<big:=by have:=hz.2.2.1;simp only[big];omega
 have h:=bH (body:=apn 6 bl.d4) (S:=fun i=>[C.i (i:Nat)]++f.e++[C.l ((vO ahd ((f.cps.take i).filter hS)).map Cp.e)]) (n:=f.cps.length) (b:=0) (ys:=[C.l ((vO ahd ((f.cps.take f.cps.length).filter hS)).map Cp.e)])
  (fun i hi=>by
   have hn:((f.cps.take i).filter hS).length≤60:=by have:=Fc f i;have:=hv.n60;omega
   have hil:(vO ahd ((f.cps.take i).filter hS)).length≤60:=by
    have:=(AP ahd DY zF EH ((f.cps.take i).filter hS) [] .nil).2.length_eq
    rw[List.append_nil] at this
    simp only[vO];omega
   have q0:(((f.cps[i].e.getD 11 C.nil).S).toList==(bs #[]).toList)=hS f.cps[i]:=rfl
   have hI:=GL hz hi _ hil
   have hN:=DS ahd f.cps[i] (vO ahd ((f.cps.take i).filter hS))
   simp only[Fl.e,jA,jB] at hI
   simp only[Fl.e,jA,jB,apL,jC,jD,bl.d4,C.I_i,C.L_l,jW,ltL hi,decide_true,jR,jX,jY,getD_map' Cp.e hi,q0,DR f hi]
   cases hw:hS f.cps[i] with
   |false=>simp[bl.d3,w1 hi hlc]
   |true=>
    simp only[jR,jZ,jS,FA]
    generalize vO ahd ((f.cps.take i).filter hS)=L at hI hil hN⊢
    rw[hI]
    have q1:((kL ahd f.cps[i] L:Nat):Int)≤(L.length:Int):=by omega
    have q2:0+kL ahd f.cps[i] L≤4294967296:=by omega
    have q3:min (kL ahd f.cps[i] L) L.length=kL ahd f.cps[i] L:=by omega
    have q4:0+kL ahd f.cps[i] L+(0+1)≤4294967296:=by omega
    have q5:0+kL ahd f.cps[i] L+(0+1)+(L.length-kL ahd f.cps[i] L)≤4294967296:=by omega
    simp only[au,apL,jC,jD,bl.d2,C.I_i,C.L_l,jW,q1,ltL hi,getD_map' Cp.e hi,Jj,jX,decide_true,jR,jY,rows,List.length_append,List.length_drop,List.length_take,Nat.sub_zero,List.length_cons,List.length_nil,q2,q3,q4,q5,Int.le_refl,Nat.min_self,List.drop_zero,jB]
    have p1:kL ahd f.cps[i] L≤4294967295:=by omega
    have p2:kL ahd f.cps[i] L+1+(L.length-kL ahd f.cps[i] L)≤4294967296:=by omega
    simp[zW,List.map_take,List.map_drop,List.take_of_length_le,p1,p2,bl.d3,w1 hi hlc])
  (by simp[bl.d4,Fl.e]) f.cps.length 0 rfl
 have hql:(queue f).length≤60:=by
  rw[(oC f).length_eq]
  exact Nat.le_trans (List.length_filter_le _ _) hv.n60
 have h0:vO ahd (f.cps.filter hS)=queue f:=rfl
 simp only[Fl.e,jA,jB,Int.natCast_zero,List.take_zero,List.filter_nil,show vO ahd ([]:List Cp)=[] from rfl,List.map_nil,List.take_length,h0] at h
 generalize queue f=q at h hql⊢
 have h2:=bH (body:=apn 3 bl.d5) (S:=fun i=>[C.i (i:Nat),C.l (q.map Cp.e),C.l (((q.take i).map Cp.name).map sE)]) (n:=q.length) (b:=4) (ys:=[C.l (((q.take q.length).map Cp.name).map sE)])
  (fun i hi=>by
   have hn:(q.take i).length+1≤4294967296:=by rw[List.length_take];omega
   have hs:[(q[i].e).getD 0 C.nil]=sE q[i].name:=rfl
   simp only[apL,jC,jD,bl.d5,C.I_i,C.L_l,jW,ltL hi,decide_true,jR,jX,jY,getD_map' Cp.e hi,rows,List.length_cons,List.length_nil,Nat.zero_add,hn,hs,w1 hi (show q.length<big by simp only[big];omega),List.take_succ_eq_append_getElem hi,List.map_append]
   rfl)
  (by simp[bl.d5]) q.length 0 rfl
 simp only[Int.natCast_zero,List.take_zero,List.map_nil,List.take_length] at h2
 simp only[bl,bl.d8,Fl.e,apL,jC,jD,show af=([]:List (List C)) from rfl,h,au,bl.d7,C.L_l,h2,bl.d6,jV]
end
end Go.Ev
namespace Go.Ev
def mz {α:Type} (lt:α→α→Bool):List α→List α→Int
 |[],[]=>0
 |[],_::_=>-1
 |_::_,[]=>1
 |x::a,y::b=>bif lt x y then-1 else bif lt y x then 1 else mz lt a b
theorem yi {α:Type} {lt:α→α→Bool} (asym:∀x y,lt x y=true→lt y x=false):∀a b:List α,mz lt b a=-mz lt a b
 |[],[]=>rfl
 |[],_::_=>rfl
 |_::_,[]=>rfl
 |x::a,y::b=>by
  have ih:=yi asym a b
  simp only[mz]
  cases h1:lt x y with
  |true=>rw[asym _ _ h1];rfl
  |false=>cases h2:lt y x<;>simp[ih]
theorem ye {α:Type} {lt:α→α→Bool} {xs ys:List α} {body:List C→R} {S:Nat→List C} {K:List C→R} {b:Nat} (out:Int→List C)
  (hs:∀i (h1:i<xs.length) (h2:i<ys.length),body (S i)=bif lt xs[i] ys[i] then some (.ret (out (-1))) else bif lt ys[i] xs[i] then some (.ret (out 1)) else some (.again (S (i+1))))
  (he:∀i,(i=xs.length∨i=ys.length)→i≤xs.length→i≤ys.length→ah b (lim body (S i)) K=some (.ret (out (if xs.length<ys.length then-1 else if ys.length<xs.length then 1 else 0)))):
  ∀k i,k+i=min xs.length ys.length→ah b (lim body (S i)) K=some (.ret (out (mz lt (xs.drop i) (ys.drop i))))
 |0,i,h=>by
  rw[he i (by omega) (by omega) (by omega)]
  congr 3
  by_cases h1:xs.length<ys.length
  ·rw[if_pos h1,List.drop_of_length_le (show xs.length≤i by omega),List.drop_eq_getElem_cons (show i<ys.length by omega)];rfl
  ·rw[if_neg h1]
   by_cases h2:ys.length<xs.length
   ·rw[if_pos h2,List.drop_of_length_le (show ys.length≤i by omega),List.drop_eq_getElem_cons (show i<xs.length by omega)];rfl
   ·rw[if_neg h2,List.drop_of_length_le (show xs.length≤i by omega),List.drop_of_length_le (show ys.length≤i by omega)];rfl
 |k+1,i,h=>by
  have h1:i<xs.length:=by omega
  have h2:i<ys.length:=by omega
  have hb:=hs i h1 h2
  rw[List.drop_eq_getElem_cons h1,List.drop_eq_getElem_cons h2]
  simp only[mz]
  cases q1:lt xs[i] ys[i] with
  |true=>rw[q1] at hb;rw[lH hb];rfl
  |false=>
   rw[q1] at hb
   cases q2:lt ys[i] xs[i] with
   |true=>rw[q2] at hb;rw[lH hb];rfl
   |false=>rw[q2] at hb;rw[aI hb,ye out hs he k (i+1) (by omega)];rfl
def ltI (x y:Int):Bool:=decide (x<y)
theorem Cr (x y:Int) (h:ltI x y=true):ltI y x=false:=by simp[ltI] at*;omega
theorem D9 (n m:Nat):decide ((if n<m then (-1:Int) else if m<n then 1 else 0)<0)=decide (n<m):=by
 by_cases h:n<m
 ·simp[h]
 ·by_cases h2:m<n<;>simp[h,h2]
theorem jt (xs ys:List Int) (hx:xs.length≤1048576) (hy:ys.length≤1048576):cg [.l (xs.map iE),.l (ys.map iE)]=some [.b (decide (mz ltI xs ys<0))]:=by
 have hb:xs.length<big:=by simp only[big];omega
 have h:=ye (lt:=ltI) (xs:=xs) (ys:=ys) (body:=apn 3 cg.d1) (S:=fun i=>[.l (xs.map iE),.l (ys.map iE),.i (i:Nat)]) (K:=apn 2 cg.d2) (b:=0) (fun n=>[.b (decide (n<0))])
  (fun i h1 h2=>by
   simp only[apL,jC,jD,cg.d1,C.I_i,C.L_l,jW,ltL h1,ltL h2,decide_true,decide_false,jR,jS,jX,jY,getD_map' iE h1,getD_map' iE h2,w1 h1 hb]
   simp only[iE,jC,C.I_i,ltI]
   rcases Int.lt_trichotomy xs[i] ys[i] with h|h|h
   ·have:(xs[i] !=ys[i])=true:=by rw[bne_iff_ne];omega
    simp[this,h]
   ·rw[h];simp
   ·have:(xs[i] !=ys[i])=true:=by rw[bne_iff_ne];omega
    have h':¬xs[i]<ys[i]:=by omega
    simp[this,h,h'])
  (fun i h0 h1 h2=>by
   have hr:apn 3 cg.d1 [.l (xs.map iE),.l (ys.map iE),.i (i:Nat)]=some (.brk 0 [.l (xs.map iE),.l (ys.map iE)]):=by
    simp only[apL,jC,jD,cg.d1,C.I_i,C.L_l,jW]
    rcases Nat.lt_or_ge i xs.length with h|h
    ·have:¬((i:Int)<(ys.length:Int)):=by omega
     simp only[ltL h,this,decide_false,jR,jS]
    ·have:¬((i:Int)<(xs.length:Int)):=by omega
     simp only[this,decide_false,jS]
   rw[aU hr,D9]
   simp only[au,apL,jC,jD,cg.d2,C.L_l,jW]
   congr 5
   simp)
  (min xs.length ys.length) 0 (by omega)
 simp only[Int.natCast_zero,List.drop_zero] at h
 simp only[cg,cg.d3,apL,jC,jD,h,jV]
theorem AJ (xs ys:List Str) (hx:xs.length≤1048576) (hy:ys.length≤1048576):ed [.l (xs.map sE),.l (ys.map sE)]=some [.b (decide (mz sLt xs ys<0))]:=by
 have hb:xs.length<big:=by simp only[big];omega
 have h:=ye (lt:=sLt) (xs:=xs) (ys:=ys) (body:=apn 3 ed.d1) (S:=fun i=>[.l (xs.map sE),.l (ys.map sE),.i (i:Nat)]) (K:=apn 2 ed.d2) (b:=0) (fun n=>[.b (decide (n<0))])
  (fun i h1 h2=>by
   simp only[apL,jC,jD,ed.d1,C.I_i,C.L_l,jW,ltL h1,ltL h2,decide_true,decide_false,jR,jS,jX,jY,getD_map' sE h1,getD_map' sE h2,w1 h1 hb]
   simp only[sE,jC,C.S_s]
   have e:=Ec xs[i] ys[i]
   show (bif !(sEq xs[i] ys[i]) then some (Out.ret [C.b (sLt xs[i] ys[i])]) else _)=_
   cases h1:sLt xs[i] ys[i]<;>cases h2:sLt ys[i] xs[i]<;>cases h3:sEq xs[i] ys[i]<;>simp_all
   all_goals (rw[cF] at h3;rw[h3,zS] at h1;cases h1))
  (fun i h0 h1 h2=>by
   have hr:apn 3 ed.d1 [.l (xs.map sE),.l (ys.map sE),.i (i:Nat)]=some (.brk 0 [.l (xs.map sE),.l (ys.map sE)]):=by
    simp only[apL,jC,jD,ed.d1,C.I_i,C.L_l,jW]
    rcases Nat.lt_or_ge i xs.length with h|h
    ·have:¬((i:Int)<(ys.length:Int)):=by omega
     simp only[ltL h,this,decide_false,jR,jS]
    ·have:¬((i:Int)<(xs.length:Int)):=by omega
     simp only[this,decide_false,jS]
   rw[aU hr,D9]
   simp only[au,apL,jC,jD,ed.d2,C.L_l,jW]
   congr 5
   simp)
  (min xs.length ys.length) 0 (by omega)
 simp only[Int.natCast_zero,List.drop_zero] at h
 simp only[ed,ed.d3,apL,jC,jD,h,jV]
end Go.Ev
namespace Go.Ev
def qH (c:Cp) (b:Bt) (d:Cp):Bool:=sEq d.at_ b.name&&decide (d.rank<c.rank)
def kK (f:Fl) (c:Cp) (b:Bt):List Cp:=f.cps.filter (qH c b)
def wS (set i:Nat):Bool:=set/2^i%2==1
def pz (l:List Cp) (set:Nat):Nat→List Cp
 |0=>[]
 |i+1=>match l[i]? with
  |some d=>bif wS set i then pz l set i++[d] else pz l set i
  |none=>pz l set i
theorem E9 {l:List Cp} {i:Nat} (set:Nat) (h:i<l.length):pz l set (i+1)=bif wS set i then pz l set i++[l[i]] else pz l set i:=by
 simp[pz,h]
theorem tp {l:List Cp} {set:Nat} {x:Cp}:∀ {i:Nat},x∈pz l set i→x∈l
 |0,h=>by simp[pz] at h
 |i+1,h=>by
  simp only[pz] at h
  cases hl:l[i]? with
  |none=>rw[hl] at h;exact tp h
  |some d=>
   rw[hl] at h
   simp only at h
   cases hb:wS set i with
   |false=>rw[hb] at h;exact tp h
   |true=>
    rw[hb,jR] at h
    rcases List.mem_append.1 h with h|h
    ·exact tp h
    ·rw[List.mem_singleton] at h
     rw[h];exact List.mem_of_getElem? hl
theorem wP (l:List Cp) (set:Nat):∀i,(pz l set i).length≤i
 |0=>Nat.le_refl _
 |i+1=>by
  have ih:=wP l set i
  simp only[pz]
  split
  ·cases wS set i<;>simp<;>omega
  ·omega
def DN (f:Fl) (c:Cp) (b:Bt) (set:Nat):List Str:=(pz (kK f c b) set (kK f c b).length).map Cp.name
structure jP (f:Fl) (l:List Str):Prop where
 len:l.length≤f.cps.length
 mem:∀s,s∈l→∃d,d∈f.cps∧d.name=s
theorem y7 (f:Fl) (c:Cp) (b:Bt) (set:Nat):jP f (DN f c b set):=by
 refine ⟨?_,fun s hs=>?_⟩
 ·rw[DN,jW]
  exact Nat.le_trans (wP _ _ _) (List.length_filter_le _ _)
 ·rw[DN,List.mem_map] at hs
  obtain ⟨d,hd,rfl⟩:=hs
  exact ⟨d,(List.mem_filter.1 (tp hd)).1,rfl⟩
theorem zk (f:Fl):jP f []:=⟨Nat.zero_le _,fun s hs=>by simp at hs⟩
theorem tn {f:Fl} (hu:wT f.cps) {d:Cp} (hd:d∈f.cps):∃k,∃hk:k<f.cps.length,cIx f d.name=(k:Nat)∧f.cps[k]=d:=by
 rcases uw f d.name with h|⟨k,hk,h,e⟩
 ·have:=oH _ _ _ h
  have h2:f.cps.any (fun x:Cp=>sEq x.name d.name)=true:=List.any_eq_true.2 ⟨d,hd,(cF _ _).2 rfl⟩
  rw[this] at h2;cases h2
 ·exact ⟨k,hk,h,BJ hu (List.getElem_mem hk) hd e⟩
theorem jP.sz {f:Fl} {l:List Str} (h:jP f l) (hz:f.Sz 1048576):tJ 1048576 l:=by
 refine ⟨Nat.le_trans h.len hz.2.2.1,fun s hs=>?_⟩
 obtain ⟨d,hd,rfl⟩:=h.mem s hs
 exact (hz.2.2.2 d hd).1
theorem jP.ix {f:Fl} {l:List Str} (h:jP f l) (hu:wT f.cps):∀j (hj:j<l.length),∃k,∃hk:k<f.cps.length,cIx f l[j]=(k:Nat)∧sEq f.cps[k].name l[j]=true:=by
 intro j hj
 obtain ⟨d,hd,e⟩:=h.mem l[j] (List.getElem_mem hj)
 obtain ⟨k,hk,h1,h2⟩:=tn hu hd
 exact ⟨k,hk,by rw[←e];exact h1,by rw[h2,e];exact (cF _ _).2 rfl⟩
theorem jP.there {f:Fl} {l:List Str} (h:jP f l) (hu:wT f.cps):aA (ua f l) 0 l.length=true:=by
 rw[bX]
 intro j _ hj
 have hj:j<l.length:=by omega
 obtain ⟨k,hk,h1,_⟩:=h.ix hu j hj
 rw[ua,dX hj,h1]
 simp
def ew (f:Fl) (l:List Str):List Int:=hJ (fE f l)
theorem qP {f:Fl} {l:List Str} (h:jP f l):(ew f l).length≤f.cps.length:=by
 rw[ew,yf,fE,jW];exact h.len
def EK (f:Fl) (l best:List Str):Bool:=decide (0<mz ltI (ew f l) (ew f best))||(mz ltI (ew f l) (ew f best)==0&&decide (0≤mz sLt l best))
def Hl (f:Fl) (c:Cp) (b:Bt) (l:List Str):Bool:=lq f l&&(eA (goF f l) c b false==0)
def y3 (f:Fl) (c:Cp) (b:Bt) (st:Option (List Str)) (l:List Str):Option (List Str):=
 bif (match st with|some best=>EK f l best|none=>false) then st else bif Hl f c b l then some l else st
def vic (f:Fl) (c:Cp) (b:Bt):Nat→Option (List Str)
 |0=>none
 |k+1=>y3 f c b (vic f c b k) (DN f c b k)
theorem tH (f:Fl) (c:Cp) (b:Bt):∀k,jP f ((vic f c b k).getD [])
 |0=>zk f
 |k+1=>by
  have ih:=tH f c b k
  simp only[vic,y3]
  generalize (match vic f c b k with|some best=>EK f (DN f c b k) best|none=>false)=q
  cases q with
  |true=>exact ih
  |false=>
   cases Hl f c b (DN f c b k) with
   |false=>exact ih
   |true=>exact y7 f c b k
theorem Iw (set i:Nat):(((set:Int).fdiv (2^i)).tmod 2==1)=wS set i:=by
 have e:(set:Int).fdiv (2^i)=((set/2^i:Nat):Int):=by
  rw[Int.fdiv_eq_ediv_of_nonneg _ (Int.pow_nonneg (by decide))]
  simp
 rw[e,wS,Int.tmod_eq_emod_of_nonneg (jX _)]
 generalize set/2^i=n
 rw[Bool.eq_iff_iff,beq_iff_eq,beq_iff_eq]
 omega
theorem FH {f:Fl} (hv:VB f) (c:Cp) (b:Bt):(kK f c b).length≤60:=Nat.le_trans (List.length_filter_le _ _) hv.n60
theorem HD {n:Nat} (h:n≤60):w64 (1*2^(min n 64))=((2^n:Nat):Int)∧2^n<9223372036854775808:=by
 have e:min n 64=n:=by omega
 have h2:2^n≤2^60:=Nat.pow_le_pow_right (by decide) h
 have h3:(2:Nat)^60=1152921504606846976:=by decide
 rw[h3] at h2
 have e2:(1*2^n:Int)=((2^n:Nat):Int):=by simp
 rw[e,e2]
 generalize 2^n=N at h2
 rw[aQ (by omega) (by omega)]
 exact ⟨rfl,by omega⟩
theorem CQ (f:Fl) (c:Cp) (b:Bt) {i:Nat} (h:i<f.cps.length):(f.cps.take (i+1)).filter (qH c b)=bif qH c b f.cps[i] then (f.cps.take i).filter (qH c b)++[f.cps[i]] else (f.cps.take i).filter (qH c b):=by
 rw[List.take_succ_eq_append_getElem h,List.filter_append]
 cases hw:qH c b f.cps[i]<;>simp[hw]
theorem C9 (p:Cp→Bool) (f:Fl) (i:Nat):((f.cps.take i).filter p).length≤f.cps.length:=
 Nat.le_trans (List.length_filter_le _ _) (by rw[List.length_take];omega)
end Go.Ev
namespace Go.Ev
theorem CW {f:Fl} (l best:List Str):(decide (mz ltI (ew f best) (ew f l)<0)||(!decide (mz ltI (ew f l) (ew f best)<0)&&!decide (mz sLt l best<0)))=EK f l best:=by
 rw[yi Cr (ew f l) (ew f best)]
 unfold EK
 generalize mz ltI (ew f l) (ew f best)=k
 generalize mz sLt l best=m
 rcases Int.lt_trichotomy k 0 with h|h|h
 ·have h1:¬-k<0:=by omega
  have h2:¬0<k:=by omega
  have h3:(k==0)=false:=by rw[beq_eq_false_iff_ne];omega
  simp[h,h1,h2,h3]
 ·subst h
  simp
  rw[←decide_not,decide_eq_decide];omega
 ·have h1:-k<0:=by omega
  simp[h,h1]
section
variable {f:Fl} (hz:f.Sz 1048576) {c:Cp} (hc:c.Sz 1048576) {b:Bt} (hb:b.Sz 1048576) (hbo:dy b=true) (hv:bO f=true) (hr:0≤c.room∧c.room≤1000) (hh:0≤c.hold∧c.hold≤1000)
include hz hc hb hbo hv hr hh
theorem Bf:lim (apn 24 aG.d1) ([.i 0]++f.e++c.e++b.e++[.l af])=some (.brk 0 (f.e++c.e++b.e++[.l (((kK f c b).map Cp.name).map sE)])):=by
 have hlc:f.cps.length<big:=by have:=hz.2.2.1;simp only[big];omega
 have h:=bH (body:=apn 24 aG.d1) (S:=fun i=>[C.i (i:Nat)]++f.e++c.e++b.e++[C.l ((((f.cps.take i).filter (qH c b)).map Cp.name).map sE)]) (n:=f.cps.length) (b:=0) (ys:=f.e++c.e++b.e++[.l ((((f.cps.take f.cps.length).filter (qH c b)).map Cp.name).map sE)])
  (fun i hi=>by
   have hn:((f.cps.take i).filter (qH c b)).length+1≤4294967296:=by have:=C9 (qH c b) f i;have:=hz.2.2.1;omega
   have q0:(((f.cps[i].e.getD 11 C.nil).S).toList==b.name.toList)=sEq f.cps[i].at_ b.name:=rfl
   have q1:((f.cps[i].e.getD 2 C.nil).I)=f.cps[i].rank:=rfl
   have hs:[f.cps[i].e.getD 0 C.nil]=sE f.cps[i].name:=rfl
   simp only[Fl.e,Cp.e,Bt.e,jA,jB,apL,jC,jD,aG.d1,C.I_i,C.L_l,C.S_s,jW,ltL hi,decide_true,jR,jX,jY,getD_map' Cp.e hi]
   simp only[Cp.e,jC,jD,C.S_s,C.I_i] at q0 q1 hs⊢
   rw[CQ f c b hi]
   simp only[qH,q0]
   cases sEq f.cps[i].at_ b.name with
   |false=>simp[w1 hi hlc]
   |true=>
    cases hd:decide (f.cps[i].rank<c.rank) with
    |false=>simp[w1 hi hlc]
    |true=>
     simp only[jR,Bool.and_self,hs,rows,List.length_cons,List.length_nil,Nat.zero_add,hn,decide_true,w1 hi hlc,List.map_append,List.map_cons,List.map_nil])
  (by simp[aG.d1,Fl.e,Cp.e,Bt.e]) f.cps.length 0 rfl
 simp only[Int.natCast_zero,List.take_zero,List.filter_nil,List.map_nil,List.take_length] at h
 exact h
theorem Dn (fo:Bool) (set:Nat) (hs:set<9223372036854775808) (cs:List Cp) (hcs:cs.length≤60) (best:List (List C)):lim (apn 28 aG.d2) ([.b fo,.i set,.i 0]++f.e++c.e++b.e++[.l ((cs.map Cp.name).map sE),.l best,.l af])=
  some (.brk 4 ([.b fo,.i set]++f.e++c.e++b.e++[.l ((cs.map Cp.name).map sE),.l best,.l (((pz cs set cs.length).map Cp.name).map sE)])):=by
 have hlc:cs.length<big:=by simp only[big];omega
 have h:=bH (body:=apn 28 aG.d2) (S:=fun i=>[C.b fo,C.i set,C.i (i:Nat)]++f.e++c.e++b.e++[.l ((cs.map Cp.name).map sE),.l best,C.l (((pz cs set i).map Cp.name).map sE)]) (n:=cs.length) (b:=4) (ys:=[C.b fo,C.i set]++f.e++c.e++b.e++[.l ((cs.map Cp.name).map sE),.l best,C.l (((pz cs set cs.length).map Cp.name).map sE)])
  (fun i hi=>by
   have hi':i<(cs.map Cp.name).length:=by simpa using hi
   have hn:(pz cs set i).length+1≤4294967296:=by have:=wP cs set i;omega
   have hmin:min i 64=i:=by omega
   have hgn:((cs.map Cp.name).map sE).getD i []=sE cs[i].name:=by
    rw[getD_map' sE hi'];simp
   have hs1:[(sE cs[i].name).getD 0 C.nil]=sE cs[i].name:=rfl
   simp only[Fl.e,Cp.e,Bt.e,jA,jB,apL,jC,jD,aG.d2,C.I_i,C.L_l,C.S_s,jW,ltL hi,decide_true,jR,jX,jY,hmin,Iw,hgn,hs1,rows,List.length_cons,List.length_nil,Nat.zero_add,hn,w1 hi hlc,E9 set hi]
   cases wS set i<;>simp)
  (by simp[aG.d2,Fl.e,Cp.e,Bt.e]) cs.length 0 rfl
 exact h
theorem J6 {st:Option (List Str)} (hst:jP f (st.getD [])) {l:List Str} (hl:jP f l) (set:Int) (nm:List (List C)):
  apn 27 aG.d3 ([.b st.isSome,.i set]++f.e++c.e++b.e++[.l nm,.l ((st.getD []).map sE),.l (l.map sE)])=
  some (.brk 3 ([.b (bif Hl f c b l then some l else st).isSome,.i set]++f.e++c.e++b.e++[.l nm,.l (((bif Hl f c b l then some l else st).getD []).map sE)])):=by
 have hu:=lv hv
 have hm:=sw hz (hl.sz hz) hv
 have hw:=jw hz l (hl.sz hz).1 hu (hl.ix hu)
 have F1:=mQ (sf hz l) hc hb hbo (Dq (eZ hv) l) hr hh false
 have fe:(((eA (goF f l) c b false:Nat):Int)==0)=(eA (goF f l) c b false==0):=by rw[Bool.eq_iff_iff,beq_iff_eq,beq_iff_eq];omega
 simp only[Fl.e,Cp.e,Bt.e,jA,jB] at hm hw F1
 simp only[Fl.e,Cp.e,Bt.e,jA,jB,apL,jC,jD,aG.d3,C.L_l,hm,ad,jI,C.B_b,Hl]
 cases lq f l with
 |false=>simp
 |true=>
  simp only[jR,hw,call4,jI,jC,jD,C.L_l,F1,C.I_i,fe,Bool.true_and]
  cases eA (goF f l) c b false==0<;>simp
theorem JP {st:Option (List Str)} (hst:jP f (st.getD [])) {l:List Str} (hl:jP f l) (set:Int) (nm:List (List C)):
  apn 27 aG.d4 ([.b st.isSome,.i set]++f.e++c.e++b.e++[.l nm,.l ((st.getD []).map sE),.l (l.map sE)])=
  some (.brk 3 ([.b (y3 f c b st l).isSome,.i set]++f.e++c.e++b.e++[.l nm,.l (((y3 f c b st l).getD []).map sE)])):=by
 have ht:=J6 hz hc hb hbo hv hr hh hst hl set nm
 have hu:=lv hv
 cases st with
 |none=>
  simp only[Option.isSome_none,Fl.e,Cp.e,Bt.e,jA,jB,apL,jC,jD] at ht
  simp only[Option.isSome_none,Fl.e,Cp.e,Bt.e,jA,jB,apL,jC,jD,aG.d4,C.B_b,C.L_l,jS,jJ,ht,y3]
 |some best=>
  have hst:jP f best:=hst
  have h1:=mE hz l (hl.sz hz) (hl.there hu)
  have h2:=mE hz best (hst.sz hz) (hst.there hu)
  have hn60:=(eZ hv).n60
  have b1:=qP hl
  have b2:=qP hst
  have b3:=hl.len
  have b4:=hst.len
  have l1:=jt (ew f best) (ew f l) (by omega) (by omega)
  have l2:=jt (ew f l) (ew f best) (by omega) (by omega)
  have l3:=AJ l best (by omega) (by omega)
  have hw:=CW (f:=f) l best
  simp only[Fl.e,jA,jB] at h1 h2
  rw[show hJ (fE f l)=ew f l from rfl] at h1
  rw[show hJ (fE f best)=ew f best from rfl] at h2
  simp only[Option.isSome_some,Option.getD_some,Fl.e,Cp.e,Bt.e,jA,jB,apL,jC,jD] at ht
  simp only[Option.isSome_some,Option.getD_some,Fl.e,Cp.e,Bt.e,jA,jB,apL,jC,jD,aG.d4,C.B_b,C.L_l,jR,h1,h2,l1,l2,l3,ad,jI,y3,←hw]
  cases decide (mz ltI (ew f best) (ew f l)<0) with
  |true=>simp
  |false=>
   simp only[ja,jR,Bool.false_or]
   cases decide (mz ltI (ew f l) (ew f best)<0) with
   |true=>simp only[jZ,jS,Bool.false_and,jJ,apL,jC,jD,ht]
   |false=>
    simp only[ja,jR,Bool.true_and]
    cases decide (mz sLt l best<0) with
    |true=>simp only[jZ,jS,jJ,apL,jC,jD,ht]
    |false=>simp
def qx (f:Fl) (c:Cp) (b:Bt):Option (List Str):=vic f c b (2^(kK f c b).length)
theorem xO:aG (f.e++c.e++b.e)=some [.b (qx f c b).isSome,.l (((qx f c b).getD []).map sE)]:=by
 have hcl:=FH (eZ hv) c b
 obtain ⟨p1,p2⟩:=HD hcl
 have h0:=Bf hz hc hb hbo hv hr hh
 have h:=bH (body:=apn 26 aG.d6) (S:=fun k=>[C.b (vic f c b k).isSome,C.i (k:Nat)]++f.e++c.e++b.e++[C.l (((kK f c b).map Cp.name).map sE),C.l (((vic f c b k).getD []).map sE)]) (n:=2^(kK f c b).length) (b:=2) (ys:=[C.b (qx f c b).isSome,C.l (((qx f c b).getD []).map sE)])
  (fun k hk=>by
   have hb1:=Dn hz hc hb hbo hv hr hh (vic f c b k).isSome k (by omega) (kK f c b) hcl (((vic f c b k).getD []).map sE)
   have hs1:=JP hz hc hb hbo hv hr hh (tH f c b k) (y7 f c b k) (k:Nat) (((kK f c b).map Cp.name).map sE)
   have hlt:((k:Int)<((2^(kK f c b).length:Nat):Int)):=by omega
   have hw:w64 ((k:Int)+1)=((k+1:Nat):Int):=by rw[aQ (by omega) (by omega)];omega
   rw[show ((pz (kK f c b) k (kK f c b).length).map Cp.name)=DN f c b k from rfl] at hb1
   simp only[Fl.e,Cp.e,Bt.e,jA,jB] at hb1 hs1
   simp only[Fl.e,Cp.e,Bt.e,jA,jB,apL,jC,jD,aG.d6,C.I_i,C.L_l,jW,jX,decide_true,jR,jY,p1,hlt,show af=([]:List (List C)) from rfl] at hb1⊢
   rw[hb1]
   simp only[au,hs1,apL,jC,jD,aG.d5,C.I_i,C.L_l,hw]
   rfl)
  (by
   have hlt:¬(((2^(kK f c b).length:Nat):Int)<((2^(kK f c b).length:Nat):Int)):=by omega
   simp only[Fl.e,Cp.e,Bt.e,jA,jB,apL,jC,jD,aG.d6,C.I_i,C.L_l,jW,jX,decide_true,jR,jY,p1,hlt,decide_false,jS]
   rfl) (2^(kK f c b).length) 0 (by omega)
 simp only[vic,Option.isSome_none,Option.getD_none,List.map_nil,Int.natCast_zero,Fl.e,Cp.e,Bt.e,jA,jB] at h h0
 simp only[show af=([]:List (List C)) from rfl] at h0
 simp only[aG,aG.d9,Fl.e,Cp.e,Bt.e,jA,jB,apL,jC,jD,show af=([]:List (List C)) from rfl,h0,au,aG.d8,C.L_l,h,aG.d7,C.B_b,jV]
end
end Go.Ev
namespace Go.Ev
section
variable {f:Fl} (hz:f.Sz 1048576) {c:Cp} (hc:c.Sz 1048576) {b:Bt} (hb:b.Sz 1048576) (hbo:dy b=true) (hv:bO f=true) (hr:0≤c.room∧c.room≤1000) (hh:0≤c.hold∧c.hold≤1000) (ha:0≤c.apart∧c.apart≤2)
include hz hc hb hbo hv hr hh ha
end
end Go.Ev
namespace Go.Ev
section
variable {f:Fl} (hz:f.Sz 1048576) (cn bn:Str)
include hz
end
end Go.Ev
namespace Go.Ev
theorem Fx {f:Fl} (h:bO f=true) (d i:Nat) (hj:i+d+1<f.bts.length):sLt (f.bts[i]'(by omega)).name f.bts[i+d+1].name=true:=by
 refine DL (lt:=fun a b:Bt=>sLt a.name b.name) (fun a b c=>yQ) (fun i hi=>?_) d i hj
 simp only[bO,Bool.and_eq_true] at h
 have:=(bX _ _ _).1 h.2.2.2.2.2.1 (i+1) (Nat.zero_le _) (by omega)
 have hi':i<f.bts.length:=by omega
 have e:(i+1==0)=false:=rfl
 simp only[btA,List.getElem?_eq_getElem hi,Nat.add_sub_cancel,List.getElem?_eq_getElem hi',e,Bool.false_or,Bool.and_eq_true] at this
 exact this.2
theorem xE {f:Fl} (h:bO f=true) {b:Bt} (hb:b∈f.bts):∃k,∃hk:k<f.bts.length,bIx f b.name=(k:Nat)∧f.bts[k]=b:=by
 have key:∀(i k:Nat) (hi:i<f.bts.length) (hk:k<f.bts.length),i<k→sEq f.bts[i].name f.bts[k].name=true→False:=by
  intro i k hi hk hlt he
  obtain ⟨d,rfl⟩:∃d,k=i+d+1:=⟨k-i-1,by omega⟩
  have:=Fx h d i hk
  rw[(cF _ _).1 he,zS] at this
  exact absurd this (by decide)
 rcases tI f b.name with h1|⟨k,hk,h1,e⟩
 ·have:=oH _ _ _ h1
  have h2:f.bts.any (fun x:Bt=>sEq x.name b.name)=true:=List.any_eq_true.2 ⟨b,hb,(cF _ _).2 rfl⟩
  rw[this] at h2;cases h2
 ·obtain ⟨j,hj,rfl⟩:=List.getElem_of_mem hb
  refine ⟨k,hk,h1,?_⟩
  rcases Nat.lt_trichotomy k j with q|q|q
  ·exact (key k j hk hj q e).elim
  ·subst q;rfl
  ·exact (key j k hj hk q (by rw[jz];exact e)).elim
abbrev FSt:=Option (Bt×List Str)
def FZ (f:Fl) (c:Cp) (b:Bt) (l:List Str) (b0:Bt) (l0:List Str):Bool:=
 decide (0<mz ltI (ew f l) (ew f l0))||(mz ltI (ew f l) (ew f l0)==0&&!better f.pack (iG (goF f l) c b) (iG (goF f l0) c b0))
def sT (f:Fl) (c:Cp) (st:FSt) (b:Bt):FSt:=match qx f c b with
 |none=>st
 |some l=>match st with
  |none=>some (b,l)
  |some (b0,l0)=>bif FZ f c b l b0 l0 then st else some (b,l)
def force (f:Fl) (c:Cp):Nat→FSt
 |0=>none
 |i+1=>match f.bts[i]? with|some b=>sT f c (force f c i) b|none=>force f c i
def Jp (f:Fl) (st:FSt):Prop:=∀b l,st=some (b,l)→b∈f.bts∧jP f l
theorem tz {f:Fl} {c:Cp} {b:Bt} {l:List Str} (h:qx f c b=some l):jP f l:=by
 have:=tH f c b (2^(kK f c b).length)
 rw[show vic f c b (2^(kK f c b).length)=some l from h] at this
 exact this
theorem Cg {f:Fl} {c:Cp} {st:FSt} (h:Jp f st) {b:Bt} (hb:b∈f.bts):Jp f (sT f c st b):=by
 unfold sT
 cases hv:qx f c b with
 |none=>exact h
 |some l=>
  have hl:=tz hv
  cases st with
  |none=>intro b' l' e;simp only[Option.some.injEq,Prod.mk.injEq] at e;obtain ⟨rfl,rfl⟩:=e;exact ⟨hb,hl⟩
  |some p=>
   obtain ⟨b0,l0⟩:=p
   simp only
   cases FZ f c b l b0 l0 with
   |true=>exact h
   |false=>intro b' l' e;simp only[jS,Option.some.injEq,Prod.mk.injEq] at e;obtain ⟨rfl,rfl⟩:=e;exact ⟨hb,hl⟩
theorem ny (f:Fl) (c:Cp):∀i,Jp f (force f c i)
 |0=>fun b l h=>by cases h
 |i+1=>by
  simp only[force]
  cases h:f.bts[i]? with
  |none=>exact ny f c i
  |some b=>exact Cg (ny f c i) (List.mem_of_getElem? h)
def fC (st:FSt) (c:Cp):Str:=match st with|some _=>c.name|none=>mkS []
def fB (st:FSt):Str:=match st with|some (b,_)=>b.name|none=>mkS []
def fG (st:FSt):List Str:=match st with|some (_,l)=>l|none=>[]
def Gx (c:Cp) (st:FSt):List C:=[.s (fC st c),.s (fB st),.b st.isSome,.l ((fG st).map sE)]
theorem ce (c:Cp):c.e=[.s c.name,.s c.svc,.i c.rank,.i c.born,.i c.room,.i c.hold,.s c.sel,.l (c.likes.map Lk.e),.i c.apart,.s c.near,.s c.fixed,.s c.at_]:=rfl
theorem be (b:Bt):b.e=[.s b.name,.s b.zone,.l (b.marks.map sE),.i b.room,.i b.hold,.b b.shut]:=rfl
theorem fe (f:Fl):f.e=[.b f.pack,.l (f.bts.map Bt.e),.l (f.svs.map Sv.e),.l (f.cps.map Cp.e)]:=rfl
theorem F9 (b:Bt):b.e.getD 0 .nil=.s b.name∧b.e.getD 1 .nil=.s b.zone∧b.e.getD 2 .nil=.l (b.marks.map sE)∧b.e.getD 3 .nil=.i b.room∧b.e.getD 4 .nil=.i b.hold∧b.e.getD 5 .nil=.b b.shut:=⟨rfl,rfl,rfl,rfl,rfl,rfl⟩
section
variable {f:Fl} (hz:f.Sz 1048576) {c:Cp} (hc:c.Sz 1048576) (hv:bO f=true) (hr:0≤c.room∧c.room≤1000) (hh:0≤c.hold∧c.hold≤1000) (ha:0≤c.apart∧c.apart≤2)
include hz hc hv hr hh ha
theorem B1:dL (f.e++c.e)=some (Gx c (force f c f.bts.length)):=by
 have hlc:f.bts.length<big:=by have:=hz.1.1;simp only[big];omega
 have h60:=(eZ hv).n60
 have hu:=lv hv
 have h:=bH (body:=apn 24 dL.d2) (S:=fun i=>[C.b (force f c i).isSome,C.i (i:Nat)]++f.e++c.e++[C.s (mkS []),C.s (mkS []),C.s (fC (force f c i) c),C.s (fB (force f c i)),C.l [],C.l ((fG (force f c i)).map sE)]) (n:=f.bts.length) (b:=0)
  (ys:=[C.b (force f c f.bts.length).isSome,C.s (mkS []),C.s (mkS []),C.s (fC (force f c f.bts.length) c),C.s (fB (force f c f.bts.length)),C.l [],C.l ((fG (force f c f.bts.length)).map sE)])
  (fun i hi=>by
   have m:=List.getElem_mem hi
   have hbz:=hz.1.2 _ m
   have hbo:=(eZ hv).bb _ m
   have hV:=xO hz hc hbz hbo hv hr hh
   have hinv:=ny f c i
   have hst:force f c (i+1)=sT f c (force f c i) f.bts[i]:=by simp[force,hi]
   rw[hst]
   generalize force f c i=st at hinv⊢
   obtain ⟨r0,r1,r2,r3,r4,r5⟩:=F9 f.bts[i]
   simp only[fe,ce,be,sc4,jA,jB] at hV
   simp only[fe,ce,jA,jB,apL,jC,jD,dL.d2,C.I_i,C.L_l,C.B_b,jW,ltL hi,decide_true,jR,jX,jY,getD_map' Bt.e hi,r0,r1,r2,r3,r4,r5,hV,call2,jI]
   unfold sT
   cases hvic:qx f c f.bts[i] with
   |none=>simp[dL.d1,w1 hi hlc]
   |some l=>
    have hl:=tz hvic
    simp only[Option.isSome_some,Option.getD_some,jZ,jS]
    cases st with
    |none=>simp[dL.d1,w1 hi hlc,fC,fB,fG]
    |some p=>
     obtain ⟨b0,l0⟩:=p
     obtain ⟨hb0,hl0⟩:=hinv b0 l0 rfl
     obtain ⟨j,hj,hj1,rfl⟩:=xE hv hb0
     have hb:=iw f f.bts[j].name hz.1.1
     have b1:=qP hl
     have b2:=qP hl0
     have H1:=mE hz l (hl.sz hz) (hl.there hu)
     have H2:=mE hz l0 (hl0.sz hz) (hl0.there hu)
     rw[show hJ (fE f l)=ew f l from rfl] at H1
     rw[show hJ (fE f l0)=ew f l0 from rfl] at H2
     have l1:=jt (ew f l0) (ew f l) (by omega) (by omega)
     have l2:=jt (ew f l) (ew f l0) (by omega) (by omega)
     have W1:=jw hz l (hl.sz hz).1 hu (hl.ix hu)
     have W2:=jw hz l0 (hl0.sz hz).1 hu (hl0.ix hu)
     have S1:aX ((goF f l).e++c.e++f.bts[i].e)=some (sc4 (iG (goF f l) c f.bts[i])):=lz (sf hz l) hc hbz hbo
     have S2:aX ((goF f l0).e++c.e++f.bts[j].e)=some (sc4 (iG (goF f l0) c f.bts[j])):=lz (sf hz l0) hc (hz.1.2 _ hb0) ((eZ hv).bb _ hb0)
     have B:=nI (iG (goF f l) c f.bts[i]) (iG (goF f l0) c f.bts[j]) f.pack
     obtain ⟨s0,s1,s2,s3,s4,s5⟩:=F9 f.bts[j]
     rw[hj1] at hb
     simp only[fe,ce,be,sc4,jA,jB] at H1 H2 W1 W2 S1 S2 B hb
     simp only[Option.isSome_some,fC,fB,fG,jR,H1,H2,l1,l2,ad,call4,jI,jC,jD,C.I_i,C.L_l,C.B_b,W1,W2,S1,S2,hb,jX,decide_true,ltL hj,jY,getD_map' Bt.e hj,s0,s1,s2,s3,s4,s5,B,FZ,yi Cr (ew f l) (ew f l0)]
     generalize mz ltI (ew f l) (ew f l0)=k
     rcases Int.lt_trichotomy k 0 with q|q|q
     ·have q1:¬-k<0:=by omega
      have q2:¬0<k:=by omega
      have q3:(k==0)=false:=by rw[beq_eq_false_iff_ne];omega
      simp[q,q1,q2,q3,dL.d1,w1 hi hlc,fC,fB,fG]
     ·subst q
      cases better f.pack (iG (goF f l) c f.bts[i]) (iG (goF f l0) c f.bts[j])<;>simp[dL.d1,w1 hi hlc,fC,fB,fG]
     ·have q1:-k<0:=by omega
      simp[q,q1,dL.d1,w1 hi hlc,fC,fB,fG])
  (by simp[dL.d2,fe,ce]) f.bts.length 0 rfl
 simp only[force,fC,fB,fG,Option.isSome_none,List.map_nil,Int.natCast_zero,fe,ce,jA,jB] at h
 simp only[dL,dL.d4,fe,ce,jA,jB,apL,jC,jD,C.L_l,jW,show af=([]:List (List C)) from rfl,show bs #[]=mkS [] from rfl]
 rw[h]
 simp only[au,apL,jC,jD,dL.d3,C.B_b,C.L_l,jV,Gx]
 rfl
end
end Go.Ev
namespace Go.Ev
theorem uv {α β:Type} {q:List β} {g:β→Option α} {out:α→List C} {body:List C→R} {S:Nat→List C} {b:Nat} {ys:List C}
  (hs:∀i (h:i<q.length),body (S i)=match g q[i] with|some x=>some (.ret (out x))|none=>some (.again (S (i+1)))) (he:body (S q.length)=some (.brk b ys)):
  ∀k i,k+i=q.length→lim body (S i)=match (q.drop i).findSome? g with|some x=>some (.ret (out x))|none=>some (.brk b ys)
 |0,i,h=>by
  have:i=q.length:=by omega
  subst this
  rw[aU he,List.drop_length];rfl
 |k+1,i,h=>by
  have hi:i<q.length:=by omega
  have hb:=hs i hi
  rw[List.drop_eq_getElem_cons hi,List.findSome?_cons]
  cases hg:g q[i] with
  |some x=>rw[hg] at hb;rw[lH hb]
  |none=>rw[hg] at hb;rw[aI hb,uv hs he k (i+1) (by omega)]
abbrev Stp:=Str×Str×List Str
def sN (f:Fl) (c:Cp):Option Stp:=bif sEq (gl f c) (mkS []) then none else some (c.name,gl f c,[])
def E7 (f:Fl) (c:Cp):Option Stp:=match force f c f.bts.length with|some (b,l)=>some (c.name,b.name,l)|none=>none
def xl (f:Fl):Option Stp:=match (queue f).findSome? (sN f) with|some x=>some x|none=>(queue f).findSome? (E7 f)
def wA (r:Option Stp):List C:=match r with|some (a,b,l)=>[.s a,.s b,.b true,.l (l.map sE)]|none=>[.s (mkS []),.s (mkS []),.b false,.l []]
def EX (x:Stp):List C:=[.s x.1,.s x.2.1,.b true,.l (x.2.2.map sE)]
section
variable {f:Fl} (hz:f.Sz 1048576) (hv:bO f=true)
include hz hv
theorem oj:dZ f.e=some (wA ((queue f).findSome? (sN f))):=by
 have hq:=sm hz (eZ hv)
 have hql:(queue f).length≤60:=by
  rw[(oC f).length_eq]
  exact Nat.le_trans (List.length_filter_le _ _) (eZ hv).n60
 have hqm:∀x,x∈queue f→x∈f.cps:=fun x hx=>(nx hx).1
 generalize queue f=q at hq hql hqm⊢
 have hlb:q.length<big:=by simp only[big];omega
 have h1:=uv (q:=q) (g:=sN f) (out:=EX) (body:=apn 9 dZ.d1) (S:=fun i=>[C.i (i:Nat)]++f.e++[C.s (mkS []),C.s (mkS []),C.l ((q.map Cp.name).map sE),C.l []]) (b:=0) (ys:=[C.s (mkS []),C.s (mkS []),C.l []])
  (fun i hi=>by
   have m:=hqm _ (List.getElem_mem hi)
   have hi':i<(q.map Cp.name).length:=by simpa using hi
   have hgn:((q.map Cp.name).map sE).getD i []=sE q[i].name:=by rw[getD_map' sE hi'];simp
   obtain ⟨k,hk,k1,k2⟩:=tn (lv hv) m
   have hcix:=fj f q[i].name hz.2.2.1
   rw[k1] at hcix
   have hC:=yH hz (hz.2.2.2 _ m) (eZ hv) (kz (eZ hv) _ m) (kv (eZ hv) _ m) (tq (eZ hv) _ m)
   have q0:((gl f q[i]).toList==(bs #[]).toList)=sEq (gl f q[i]) (mkS []):=rfl
   simp only[fe,ce,jA,jB] at hC hcix
   simp only[fe,jA,jB,apL,jC,jD,dZ.d1,C.I_i,C.L_l,jW,ltL hi,decide_true,jR,jX,jY,hgn,w1 hi hlb]
   simp only[sE,jC,hcix,ad,jI,C.I_i,jX,decide_true,jR,ltL hk,jY,getD_map' Cp.e hk,k2]
   simp only[ce,jC,jD,hC,jI,C.S_s,q0,sN,EX]
   cases sEq (gl f q[i]) (mkS [])<;>simp[sE])
  (by simp[dZ.d1,fe]) q.length 0 rfl
 simp only[fe] at hq
 simp only[fe,jA,jB,Int.natCast_zero,List.drop_zero] at h1
 simp only[dZ,dZ.d3,fe,apL,jC,jD,hq,ad,jI,C.L_l,show af=([]:List (List C)) from rfl,show bs #[]=mkS [] from rfl,h1]
 cases q.findSome? (sN f) with
 |some x=>simp[wA,EX]
 |none=>simp[dZ.d2,wA,show bs #[]=mkS [] from rfl]
theorem Cd:ft f.e=some (wA (xl f)):=by
 have hF:=oj hz hv
 have hq:=sm hz (eZ hv)
 have hql:(queue f).length≤60:=by
  rw[(oC f).length_eq]
  exact Nat.le_trans (List.length_filter_le _ _) (eZ hv).n60
 have hqm:∀x,x∈queue f→x∈f.cps:=fun x hx=>(nx hx).1
 unfold xl
 generalize queue f=q at hq hql hqm hF⊢
 have hlb:q.length<big:=by simp only[big];omega
 have h1:=uv (q:=q) (g:=E7 f) (out:=EX) (body:=apn 12 ft.d1) (S:=fun i=>[C.i (i:Nat)]++f.e++[C.s (mkS []),C.s (mkS []),C.s (mkS []),C.s (mkS []),C.l ((q.map Cp.name).map sE),C.l [],C.l []]) (b:=0) (ys:=[C.s (mkS []),C.s (mkS []),C.l []])
  (fun i hi=>by
   have m:=hqm _ (List.getElem_mem hi)
   have hi':i<(q.map Cp.name).length:=by simpa using hi
   have hgn:((q.map Cp.name).map sE).getD i []=sE q[i].name:=by rw[getD_map' sE hi'];simp
   obtain ⟨k,hk,k1,k2⟩:=tn (lv hv) m
   have hcix:=fj f q[i].name hz.2.2.1
   rw[k1] at hcix
   have hC:=B1 hz (hz.2.2.2 _ m) hv (kz (eZ hv) _ m) (kv (eZ hv) _ m) (tq (eZ hv) _ m)
   simp only[fe,ce,jA,jB] at hC hcix
   simp only[fe,jA,jB,apL,jC,jD,ft.d1,C.I_i,C.L_l,jW,ltL hi,decide_true,jR,jX,jY,hgn,w1 hi hlb]
   simp only[sE,jC,hcix,ad,jI,C.I_i,jX,decide_true,jR,ltL hk,jY,getD_map' Cp.e hk,k2]
   simp only[ce,jC,jD,hC,Gx,call4,jI,C.B_b,C.L_l,E7,EX]
   cases force f q[i] f.bts.length with
   |none=>simp[fC,fB,fG,sE]
   |some p=>obtain ⟨b,l⟩:=p;simp[fC,fB,fG,sE])
  (by simp[ft.d1,fe]) q.length 0 rfl
 simp only[fe] at hq hF
 simp only[fe,jA,jB,Int.natCast_zero,List.drop_zero] at h1
 simp only[ft,ft.d3,fe,apL,jC,jD,hF]
 cases q.findSome? (sN f) with
 |some x=>simp[wA,call4]
 |none=>
  simp only[wA,call4,jI,jC,jD,C.B_b,jS,hq,ad,C.L_l,show af=([]:List (List C)) from rfl,show bs #[]=mkS [] from rfl,h1]
  cases q.findSome? (E7 f) with
  |some x=>simp[wA,EX]
  |none=>simp[ft.d2,wA,show bs #[]=mkS [] from rfl]
end
def mC (f:Fl):Option Stp:=bif bO f then xl f else none
theorem Bj {f:Fl} (hz:f.Sz 1048576) {x:Stp} (h:mC f=some x):jP f x.2.2:=by
 unfold mC at h
 cases hv:bO f with
 |false=>rw[hv] at h;cases h
 |true=>
  rw[hv,jR] at h
  unfold xl at h
  cases h1:(queue f).findSome? (sN f) with
  |some y=>
   rw[h1] at h
   obtain rfl:=Option.some.inj h
   obtain ⟨c,_,hc⟩:=List.exists_of_findSome?_eq_some h1
   unfold sN at hc
   cases hq:sEq (gl f c) (mkS []) with
   |true=>rw[hq] at hc;cases hc
   |false=>rw[hq] at hc;obtain rfl:=Option.some.inj hc;exact zk f
  |none=>
   rw[h1] at h
   obtain ⟨c,_,hc⟩:=List.exists_of_findSome?_eq_some h
   unfold E7 at hc
   cases hf:force f c f.bts.length with
   |none=>rw[hf] at hc;cases hc
   |some p=>
    obtain ⟨b,l⟩:=p
    rw[hf] at hc
    obtain rfl:=Option.some.inj hc
    exact (ny f c _ b l hf).2
def nxA (r:Option Stp):Str:=match r with|some x=>x.1|none=>mkS []
def nxB (r:Option Stp):Str:=match r with|some x=>x.2.1|none=>mkS []
def nxG (r:Option Stp):List Str:=match r with|some x=>x.2.2|none=>[]
theorem wm (r:Option Stp):wA r=[.s (nxA r),.s (nxB r),.b r.isSome,.l ((nxG r).map sE)]:=by cases r<;>rfl
end Go.Ev
namespace Go.Ev
def atP (nm:Str) (x:Cp):Bool:=sEq x.at_ nm
theorem Bz {l:List Cp} (nm:Str) (hl:∀x,x∈l→0≤x.room∧x.room≤1000) (h60:l.length≤60):∀i,i≤l.length→lZ l nm i=dp (atP nm) Cp.room l i
 |0,_=>by simp[lZ,dp]
 |i+1,h=>by
  have hi:i<l.length:=by omega
  have ih:=Bz nm hl h60 i (by omega)
  have hb:=lx (atP nm) Cp.room hl i (by omega)
  have hx:=hl _ (List.getElem_mem hi)
  simp only[lZ,List.getElem?_eq_getElem hi,ih]
  rw[nF (atP nm) Cp.room hi]
  show (bif atP nm l[i] then w64 (dp (atP nm) Cp.room l i+l[i].room) else dp (atP nm) Cp.room l i)=_
  cases atP nm l[i] with
  |true=>simp only[jR];rw[aQ (by omega) (by omega)]
  |false=>simp
theorem Cs {l:List Cp} (nm:Str) (hl:∀x,x∈l→0≤x.hold∧x.hold≤1000) (h60:l.length≤60):∀i,i≤l.length→lW l nm i=dp (atP nm) Cp.hold l i
 |0,_=>by simp[lW,dp]
 |i+1,h=>by
  have hi:i<l.length:=by omega
  have ih:=Cs nm hl h60 i (by omega)
  have hb:=lx (atP nm) Cp.hold hl i (by omega)
  have hx:=hl _ (List.getElem_mem hi)
  simp only[lW,List.getElem?_eq_getElem hi,ih]
  rw[nF (atP nm) Cp.hold hi]
  show (bif atP nm l[i] then w64 (dp (atP nm) Cp.hold l i+l[i].hold) else dp (atP nm) Cp.hold l i)=_
  cases atP nm l[i] with
  |true=>simp only[jR];rw[aQ (by omega) (by omega)]
  |false=>simp
theorem tT (l:List Cp) (nm:Str):∀i,i≤l.length→eD l nm i=gE (atP nm) l i
 |0,_=>by simp[eD,gE]
 |i+1,h=>by
  have hi:i<l.length:=by omega
  have ih:=tT l nm i (by omega)
  simp only[eD,List.getElem?_eq_getElem hi,ih,tK (atP nm) hi]
  show (bif atP nm l[i] then _ else _)=_
  cases atP nm l[i]<;>simp
def lJ (p:Cp→Bool) (g:Cp→Int) (l:List Cp):Int:=(l.map fun x=>bif p x then g x else 0).sum
theorem w7 (p:Cp→Bool) (g:Cp→Int) (l:List Cp):dp p g l l.length=lJ p g l:=by simp[dp,lJ]
theorem ya (p:Cp→Bool) (l:List Cp):((gE p l l.length:Nat):Int)=lJ p (fun _=>1) l:=by
 simp only[gE,List.take_length,lJ]
 induction l with
 |nil=>rfl
 |cons x r ih=>
  simp only[List.countP_cons,List.map_cons,List.sum_cons,←ih]
  cases p x<;>simp<;>omega
theorem D5 {p q:Cp→Bool} {g:Cp→Int}:∀ {l m:List Cp},l.length=m.length→(∀i (h1:i<l.length) (h2:i<m.length),(bif p l[i] then g l[i] else 0)≤(bif q m[i] then g m[i] else 0))→lJ p g l≤lJ q g m
 |[],[],_,_=>Int.le_refl _
 |[],_::_,h,_=>by simp at h
 |_::_,[],h,_=>by simp at h
 |x::l,y::m,hl,h=>by
  have h0:=h 0 (by simp) (by simp)
  have ih:=D5 (p:=p) (q:=q) (g:=g) (l:=l) (m:=m) (by simpa using hl) fun i h1 h2=>by
   have:=h (i+1) (by simpa using h1) (by simpa using h2)
   simpa using this
  simp only[lJ,List.map_cons,List.sum_cons] at*
  simp only[List.getElem_cons_zero] at h0
  omega
theorem BG {p:Cp→Bool} {g:Cp→Int}:∀ {l:List Cp} {i:Nat} (h:i<l.length) (y:Cp),lJ p g (l.set i y)=lJ p g l-(bif p l[i] then g l[i] else 0)+(bif p y then g y else 0)
 |x::l,0,_,y=>by simp only[List.set_cons_zero,lJ,List.map_cons,List.sum_cons,List.getElem_cons_zero];omega
 |x::l,i+1,h,y=>by
  have ih:=BG (p:=p) (g:=g) (l:=l) (i:=i) (by simpa using h) y
  simp only[List.set_cons_succ,lJ,List.map_cons,List.sum_cons,List.getElem_cons_succ] at*
  omega
structure VF (f:Fl):Prop where
 n12:f.bts.length≤12
 n30:f.svs.length≤30
 n60:f.cps.length≤60
 sv:aA (svA f) 0 f.svs.length=true
 cp:∀i (h:i<f.cps.length),ig f.cps[i]=true∧f.svs.any (fun s=>sEq s.name f.cps[i].svc)=true∧(∀h':0<i,sLt (f.cps[i-1]'(by omega)).name f.cps[i].name=true)∧(sEq f.cps[i].at_ (mkS [])=true∨f.bts.any (fun b=>sEq b.name f.cps[i].at_)=true)
 bt:aA (btA f) 0 f.bts.length=true
 fit:∀b,b∈f.bts→lJ (atP b.name) Cp.room f.cps≤b.room∧lJ (atP b.name) Cp.hold f.cps≤b.hold∧lJ (atP b.name) (fun _=>1) f.cps≤10
theorem Eb {f:Fl} (hv:VB f) {b:Bt} (hb:b∈f.bts):used f b.name=(lJ (atP b.name) Cp.room f.cps,lJ (atP b.name) Cp.hold f.cps):=by
 have h1:=Bz b.name (kz hv) hv.n60 f.cps.length (Nat.le_refl _)
 have h2:=Cs b.name (kv hv) hv.n60 f.cps.length (Nat.le_refl _)
 rw[w7] at h1 h2
 have hx:¬bIx f b.name<0:=by
  rcases tI f b.name with h|⟨k,hk,h,_⟩
  ·have:=oH _ _ _ h
   have h3:f.bts.any (fun x:Bt=>sEq x.name b.name)=true:=List.any_eq_true.2 ⟨b,hb,(cF _ _).2 rfl⟩
   rw[this] at h3;cases h3
  ·omega
 have hn:sEq b.name (mkS [])=false:=pN (hv.bb b hb)
 simp only[used,hn,hx,decide_false,Bool.or_self,jS,h1,h2]
theorem GG {f:Fl} (h:bO f=true):VF f:=by
 have hv:=eZ h
 have h0:=h
 simp only[bO,Bool.and_eq_true,decide_eq_true_eq] at h
 obtain ⟨a1,a2,a3,a4,a5,a6,a7⟩:=h
 refine ⟨a1,a2,a3,a4,fun i hi=>?_,a6,fun b hb=>?_⟩
 ·have:=(bX _ _ _).1 a5 i (Nat.zero_le _) (by omega)
  simp only[cpA,List.getElem?_eq_getElem hi,Bool.and_eq_true,Bool.or_eq_true] at this
  refine ⟨this.1,this.2.1,fun h'=>?_,this.2.2.2⟩
  rcases this.2.2.1 with q|q
  ·rw[beq_iff_eq] at q;omega
  ·have hi1:i-1<f.cps.length:=by omega
   rw[List.getElem?_eq_getElem hi1] at q
   exact q
 ·obtain ⟨i,hi,rfl⟩:=List.getElem_of_mem hb
  have:=(bX _ _ _).1 a7 i (Nat.zero_le _) (by omega)
  simp only[rV,List.getElem?_eq_getElem hi,Bool.and_eq_true,decide_eq_true_eq,Eb hv hb] at this
  have hs:=ya (atP f.bts[i].name) f.cps
  rw[←tT f.cps _ f.cps.length (Nat.le_refl _)] at hs
  exact ⟨this.1,this.2.1,by omega⟩
theorem qn {f:Fl} (h:VF f):bO f=true:=by
 have hbb:∀b,b∈f.bts→dy b=true:=fun b hb=>by
  obtain ⟨i,hi,rfl⟩:=List.getElem_of_mem hb
  have:=(bX _ _ _).1 h.bt i (Nat.zero_le _) (by omega)
  simp only[btA,List.getElem?_eq_getElem hi,Bool.and_eq_true] at this
  exact this.1
 have hv:VB f:=by
  refine ⟨h.n60,fun x hx=>?_,hbb⟩
  obtain ⟨i,hi,rfl⟩:=List.getElem_of_mem hx
  have:=(h.cp i hi).1
  simp only[ig,within,Bool.and_eq_true,decide_eq_true_eq] at this
  exact ⟨this.2.2.2.1,this.2.2.2.2.1,this.2.2.2.2.2.2.1,this.2.1,this.2.2.1⟩
 simp only[bO,Bool.and_eq_true,decide_eq_true_eq]
 refine ⟨h.n12,h.n30,h.n60,h.sv,(bX _ _ _).2 fun i _ hi=>?_,h.bt,(bX _ _ _).2 fun i _ hi=>?_⟩
 ·have hi:i<f.cps.length:=by omega
  obtain ⟨c1,c2,c3,c4⟩:=h.cp i hi
  simp only[cpA,List.getElem?_eq_getElem hi,Bool.and_eq_true,Bool.or_eq_true,beq_iff_eq]
  refine ⟨c1,c2,?_,c4⟩
  rcases Nat.eq_zero_or_pos i with q|q
  ·exact .inl q
  ·have hi1:i-1<f.cps.length:=by omega
   rw[List.getElem?_eq_getElem hi1]
   exact .inr (c3 q)
 ·have hi:i<f.bts.length:=by omega
  have hb:=List.getElem_mem hi
  obtain ⟨c1,c2,c3⟩:=h.fit _ hb
  have hs:=ya (atP f.bts[i].name) f.cps
  rw[←tT f.cps _ f.cps.length (Nat.le_refl _)] at hs
  simp only[rV,List.getElem?_eq_getElem hi,Bool.and_eq_true,decide_eq_true_eq,Eb hv hb]
  exact ⟨c1,c2,by omega⟩
theorem tv (g:List Str) (c:Cp):(goC g c).name=c.name∧(goC g c).svc=c.svc∧ig (goC g c)=ig c∧(goC g c).rank=c.rank∧(goC g c).room=c.room∧(goC g c).hold=c.hold:=by
 unfold goC;cases inS g c.name<;>exact ⟨rfl,rfl,rfl,rfl,rfl,rfl⟩
theorem Fe {f:Fl} (h:VF f) (g:List Str):VF (goF f g):=by
 have hl:(goF f g).cps.length=f.cps.length:=by simp[goF]
 have hg:∀i (h1:i<(goF f g).cps.length) (h2:i<f.cps.length),(goF f g).cps[i]=goC g f.cps[i]:=fun i h1 h2=>by simp[goF]
 refine ⟨h.n12,h.n30,by rw[hl];exact h.n60,h.sv,fun i hi=>?_,h.bt,fun b hb=>?_⟩
 ·have hi':i<f.cps.length:=by omega
  obtain ⟨c1,c2,c3,c4⟩:=h.cp i hi'
  rw[hg i hi hi']
  obtain ⟨e1,e2,e3,_⟩:=tv g f.cps[i]
  refine ⟨by rw[e3];exact c1,by rw[e2];exact c2,fun h'=>?_,?_⟩
  ·rw[hg (i-1) (by omega) (by omega),e1,(tv g _).1]
   exact c3 h'
  ·unfold goC
   cases inS g f.cps[i].name with
   |false=>exact c4
   |true=>exact .inl ((cF _ _).2 rfl)
 ·obtain ⟨c1,c2,c3⟩:=h.fit b hb
  have hbo:sEq (mkS []) b.name=false:=by
   have:dy b=true:=by
    obtain ⟨i,hi,rfl⟩:=List.getElem_of_mem hb
    have hi':i<f.bts.length:=hi
    have:=(bX _ _ _).1 h.bt i (Nat.zero_le _) (by omega)
    simp only[btA,List.getElem?_eq_getElem hi',Bool.and_eq_true] at this
    exact this.1
   rw[jz];exact pN this
  have key:∀(w:Cp→Int),(∀x,x∈f.cps→0≤w x)→(∀x,w (goC g x)=w x)→lJ (atP b.name) w (goF f g).cps≤lJ (atP b.name) w f.cps:=fun w hw he=>
   D5 hl fun i h1 h2=>by
    rw[hg i h1 h2,he]
    have:=hw _ (List.getElem_mem h2)
    unfold goC atP
    cases inS g f.cps[i].name with
    |false=>exact Int.le_refl _
    |true=>
     simp only[jR,hbo,jS]
     cases sEq f.cps[i].at_ b.name<;>simp<;>omega
  have hcb:∀x,x∈f.cps→0≤x.room∧0≤x.hold:=fun x hx=>by
   obtain ⟨i,hi,rfl⟩:=List.getElem_of_mem hx
   have:=(h.cp i hi).1
   simp only[ig,within,Bool.and_eq_true,decide_eq_true_eq] at this
   exact ⟨this.2.2.2.1.1,this.2.2.2.2.1.1⟩
  have k1:=key Cp.room (fun x hx=>(hcb x hx).1) fun x=>(tv g x).2.2.2.2.1
  have k2:=key Cp.hold (fun x hx=>(hcb x hx).2) fun x=>(tv g x).2.2.2.2.2
  have k3:=key (fun _=>1) (fun _ _=>by decide) fun _=>rfl
  exact ⟨by omega,by omega,by omega⟩
theorem vl {f:Fl} (h:VF f) {i:Nat} (hi:i<f.cps.length) (hw:sEq f.cps[i].at_ (mkS [])=true) {b:Bt} (hb:b∈f.bts) (hf:eA f f.cps[i] b false=0):VF (setAt f i f.cps[i] b.name):=by
 have hv:=qn h
 have hu:=lv hv
 have hvb:=eZ hv
 have hl:(setAt f i f.cps[i] b.name).cps.length=f.cps.length:=by simp[setAt]
 have hg:∀k (h1:k<(setAt f i f.cps[i] b.name).cps.length) (h2:k<f.cps.length),(setAt f i f.cps[i] b.name).cps[k]=if i=k then {f.cps[i] with at_:=b.name} else f.cps[k]:=fun k h1 h2=>by
  simp only[setAt,List.getElem_set]
 have hbo:=hvb.bb b hb
 have hbn:=pN hbo
 have hon:∀x,x∈f.cps→onP f.cps[i] b x=atP b.name x:=fun x hx=>by
  unfold onP oth atP
  cases q:sEq x.at_ b.name with
  |false=>simp
  |true=>
   have q1:sEq x.at_ (mkS [])=false:=Bc hbo _ q
   have q2:sEq x.name f.cps[i].name=false:=by
    cases q3:sEq x.name f.cps[i].name with
    |false=>rfl
    |true=>
     have:=BJ hu hx (List.getElem_mem hi) q3
     subst this
     rw[hw] at q1;cases q1
   simp[q1,q2]
 have hsum:∀w:Cp→Int,dp (onP f.cps[i] b) w f.cps f.cps.length=lJ (atP b.name) w f.cps:=fun w=>by
  rw[w7]
  unfold lJ
  congr 1
  exact List.map_congr_left fun x hx=>by rw[hon x hx]
 have hcnt:((gE (onP f.cps[i] b) f.cps f.cps.length:Nat):Int)=lJ (atP b.name) (fun _=>1) f.cps:=by
  rw[ya,←w7,hsum]
 have hf3:gE (onP f.cps[i] b) f.cps f.cps.length<10∧¬b.room<dp (onP f.cps[i] b) Cp.room f.cps f.cps.length+f.cps[i].room∧¬b.hold<dp (onP f.cps[i] b) Cp.hold f.cps f.cps.length+f.cps[i].hold:=by
  unfold eA at hf
  cases q1:b.shut&&!false<;>rw[q1] at hf<;>simp only[jR,jS] at hf
  ·cases q2: !sEq f.cps[i].fixed (mkS [])&&!sEq f.cps[i].fixed b.name<;>rw[q2] at hf<;>simp only[jR,jS] at hf
   ·cases q3: !sR f.cps[i].sel b<;>rw[q3] at hf<;>simp only[jR,jS] at hf
    ·cases q4:f.cps.any (qp f f.cps[i] b)<;>rw[q4] at hf<;>simp only[jR,jS] at hf
     ·cases q5:wD f f.cps[i] b<;>rw[q5] at hf<;>simp only[jR,jS] at hf
      ·cases q6:decide (10≤gE (onP f.cps[i] b) f.cps f.cps.length)<;>rw[q6] at hf<;>simp only[jR,jS] at hf
       ·cases q7:decide (b.room<dp (onP f.cps[i] b) Cp.room f.cps f.cps.length+f.cps[i].room)<;>rw[q7] at hf<;>simp only[jR,jS] at hf
        ·cases q8:decide (b.hold<dp (onP f.cps[i] b) Cp.hold f.cps f.cps.length+f.cps[i].hold)<;>rw[q8] at hf<;>simp only[jR,jS] at hf
         ·simp only[decide_eq_false_iff_not] at q6 q7 q8
          exact ⟨by omega,q7,q8⟩
         ·omega
        ·omega
       ·omega
      ·omega
     ·omega
    ·omega
   ·omega
  ·omega
 obtain ⟨f1,f2,f3⟩:=hf3
 rw[hsum] at f2 f3
 refine ⟨h.n12,h.n30,by rw[hl];exact h.n60,h.sv,fun k hk=>?_,h.bt,fun b' hb'=>?_⟩
 ·have hk':k<f.cps.length:=by omega
  obtain ⟨c1,c2,c3,c4⟩:=h.cp k hk'
  have en:∀m (h1:m<(setAt f i f.cps[i] b.name).cps.length) (h2:m<f.cps.length),(setAt f i f.cps[i] b.name).cps[m].name=f.cps[m].name:=fun m h1 h2=>by
   rw[hg m h1 h2];split
   ·rename_i e;subst e;rfl
   ·rfl
  refine ⟨?_,?_,fun h'=>?_,?_⟩
  ·rw[hg k hk hk'];split
   ·rename_i e;subst e;exact c1
   ·exact c1
  ·rw[hg k hk hk'];split
   ·rename_i e;subst e;exact c2
   ·exact c2
  ·rw[en k hk hk',en (k-1) (by omega) (by omega)]
   exact c3 h'
  ·rw[hg k hk hk'];split
   ·exact .inr (List.any_eq_true.2 ⟨b,hb,(cF _ _).2 rfl⟩)
   ·exact c4
 ·obtain ⟨c1,c2,c3⟩:=h.fit b' hb'
  have hbo':=hvb.bb b' hb'
  have h0:atP b'.name f.cps[i]=false:=by
   unfold atP
   rw[(cF _ _).1 hw,jz]
   exact pN hbo'
  have hset:∀w:Cp→Int,(w {f.cps[i] with at_:=b.name}=w f.cps[i])→lJ (atP b'.name) w (setAt f i f.cps[i] b.name).cps=lJ (atP b'.name) w f.cps+(bif sEq b.name b'.name then w f.cps[i] else 0):=fun w he=>by
   show lJ (atP b'.name) w (f.cps.set i _)=_
   rw[BG hi,h0,he]
   simp only[jS,atP]
   omega
  rw[hset Cp.room rfl,hset Cp.hold rfl,hset (fun _=>1) rfl]
  cases q:sEq b.name b'.name with
  |false=>simp only[jS,Int.add_zero];exact ⟨c1,c2,c3⟩
  |true=>
   have:b'=b:=by
    obtain ⟨j,hj,j1,j2⟩:=xE hv hb
    obtain ⟨j',hj',j1',j2'⟩:=xE hv hb'
    rw[(cF _ _).1 q,j1'] at j1
    have:j'=j:=by omega
    subst this
    rw[←j2,←j2']
   subst this
   simp only[jR]
   exact ⟨by omega,by omega,by omega⟩
end Go.Ev
namespace Go.Ev
end Go.Ev
namespace Go.Ev
theorem u5 (f:Fl) (c:Cp):∀i,i≤f.bts.length→iI f c i=-1∨∃k,∃h:k<f.bts.length,iI f c i=(k:Nat)∧eA f c f.bts[k] false=0
 |0,_=>.inl rfl
 |i+1,h=>by
  have hi:i<f.bts.length:=by omega
  have ih:=u5 f c i (by omega)
  simp only[iI,List.getElem?_eq_getElem hi]
  cases hq:eA f c f.bts[i] false==0 with
  |false=>simpa using ih
  |true=>
   simp only[Bool.true_and]
   cases Il f c (iI f c i) f.bts[i] with
   |true=>exact .inr ⟨i,hi,rfl,by simpa using hq⟩
   |false=>exact ih
theorem wN {f:Fl} {c:Cp} (h:sEq (gl f c) (mkS [])=false):∃b,b∈f.bts∧gl f c=b.name∧eA f c b false=0:=by
 have h0:sEq (mkS []) (mkS [])=true:=(cF _ _).2 rfl
 rcases u5 f c f.bts.length (Nat.le_refl _) with e|⟨k,hk,e,hf⟩
 ·have:gl f c=mkS []:=by
   unfold gl
   rw[e]
   split
   ·rfl
   ·rfl
  rw[this,h0] at h;cases h
 ·refine ⟨f.bts[k],List.getElem_mem hk,?_,hf⟩
  unfold gl
  rw[e,Int.toNat_natCast,List.getElem?_eq_getElem hk]
  exact if_neg (by omega)
def pE (f:Fl):Option Stp:=(queue f).findSome? (sN f)
def plF (f:Fl) (x:Stp):Fl:=match f.cps[(cIx f x.1).toNat]? with|some c=>setAt f (cIx f x.1).toNat c x.2.1|none=>f
structure th (f:Fl) (x:Stp) where
 i:Nat
 hi:i<f.cps.length
 b:Bt
 hb:b∈f.bts
 e:x=(f.cps[i].name,b.name,[])
 ix:cIx f f.cps[i].name=(i:Nat)
 w:sEq f.cps[i].at_ (mkS [])=true
 fit:eA f f.cps[i] b false=0
 put:plF f x=setAt f i f.cps[i] b.name
theorem yu {f:Fl} (hv:VF f) {x:Stp} (h:pE f=some x):Nonempty (th f x):=by
 obtain ⟨c,hc,hx⟩:=List.exists_of_findSome?_eq_some h
 unfold sN at hx
 cases hq:sEq (gl f c) (mkS []) with
 |true=>rw[hq] at hx;cases hx
 |false=>
  rw[hq] at hx
  obtain rfl:=Option.some.inj hx
  obtain ⟨hm,hw⟩:=nx hc
  obtain ⟨i,hi,e1,rfl⟩:=tn (lv (qn hv)) hm
  obtain ⟨b,hb,e2,hf⟩:=wN hq
  refine ⟨⟨i,hi,b,hb,by rw[e2],e1,hw,hf,?_⟩⟩
  simp only[plF,e1,e2,Int.toNat_natCast,List.getElem?_eq_getElem hi]
theorem th.valid {f:Fl} {x:Stp} (F:th f x) (h:VF f):VF (plF f x):=by
 rw[F.put];exact vl h F.hi F.w F.hb F.fit
theorem th.sz {f:Fl} {x:Stp} (F:th f x) (hz:f.Sz 1048576):(plF f x).Sz 1048576:=by
 rw[F.put]
 exact B0 hz (hz.2.2.2 _ (List.getElem_mem F.hi)) (hz.1.2 _ F.hb).1 _
theorem th.less {f:Fl} {x:Stp} (F:th f x) (h:VF f):(waits (plF f x)).length+1≤(waits f).length:=by
 rw[F.put]
 have hn:hS {f.cps[F.i]'F.hi with at_:=F.b.name}=false:=pN ((eZ (qn h)).bb _ F.hb)
 have hw:hS (f.cps[F.i]'F.hi)=true:=F.w
 have hp:0<f.cps.countP hS:=List.countP_pos_iff.2 ⟨_,List.getElem_mem F.hi,hw⟩
 simp only[waits,setAt,←List.countP_eq_length_filter]
 rw[List.countP_set F.hi,hn,hw]
 simp
 omega
def stS (x:Stp):Sp:=⟨x.1,x.2.1,x.2.2⟩
def place:Nat→Fl→List Sp→Fl×List Sp
 |0,f,s=>(f,s)
 |k+1,f,s=>match pE f with
  |some x=>place k (plF f x) (s++[stS x])
  |none=>(f,s)
theorem wM {f:Fl} (h:pE f=none) (s:List Sp):∀k,place k f s=(f,s)
 |0=>rfl
 |k+1=>by simp only[place,h]
theorem yR {body:List C→R} {S T:Fl→List Sp→List C} {o:List C→Out} (ho:∀ys,(o ys).stops)
  (hs:∀(f:Fl) (s:List Sp),VF f→f.Sz 1048576→s.length≤60→∀x,pE f=some x→∀F:th f x,body (S f s)=some (.again (S (plF f x) (s++[stS x]))))
  (he:∀(f:Fl) (s:List Sp),VF f→f.Sz 1048576→s.length≤60→pE f=none→body (S f s)=some (o (T f s))):
  ∀(k:Nat) (f:Fl) (s:List Sp),VF f→f.Sz 1048576→(waits f).length≤k→s.length+k≤60→lim body (S f s)=some (o (T (place k f s).1 (place k f s).2))
 |k,f,s,hv,hz,hk,hl=>by
  cases hx:pE f with
  |none=>rw[wM hx,wI (he f s hv hz (by omega) hx) (ho _)]
  |some x=>
   obtain ⟨F⟩:=yu hv hx
   have h1:=F.less hv
   cases k with
   |zero=>omega
   |succ k=>
    rw[aI (hs f s hv hz (by omega) x hx F),yR ho hs he k (plF f x) (s++[stS x]) (F.valid hv) (F.sz hz) (by omega) (by simp;omega)]
    simp only[place,hx]
end Go.Ev
namespace Go.Ev
section
variable {f:Fl} (hz:f.Sz 1048576)
include hz
end
section
variable {f:Fl} {s:List Sp} (hv:VF f) (hz:f.Sz 1048576) (hs:s.length≤60)
include hv hz hs
theorem zK {x:Stp} (hx:pE f=some x) (F:th f x) (r:Option Stp) (hr:r=pE (plF f x)):
  apn 13 cw.d1 [.b true,.b false,.l (s.map Sp.e),.b f.pack,.s x.1,.s x.2.1,.l [],.l [],.l [],.l (f.bts.map Bt.e),.l (f.svs.map Sv.e),.l (f.cps.map Cp.e),.l (x.2.2.map sE)]
   =some (.again [.b r.isSome,.b false,.l ((s++[stS x]).map Sp.e),.b (plF f x).pack,.s (nxA r),.s (nxB r),.l [],.l [],.l [],.l ((plF f x).bts.map Bt.e),.l ((plF f x).svs.map Sv.e),.l ((plF f x).cps.map Cp.e),.l ((nxG r).map sE)]):=by
 subst hr
 have hF:=oj (F.sz hz) (qn (F.valid hv))
 have hn:s.length+1≤4294967296:=by omega
 rw[show (queue (plF f x)).findSome? (sN (plF f x))=pE (plF f x) from rfl,wm] at hF
 generalize pE (plF f x)=r at hF⊢
 obtain ⟨i,hi,b,hb,e,ix,w,fit,hp⟩:=F
 have hcix:=fj f f.cps[i].name hz.2.2.1
 rw[ix] at hcix
 generalize plF f x=f' at hp hF⊢
 subst e
 subst hp
 have hc:(setAt f i f.cps[i] b.name).cps.map Cp.e=(f.cps.map Cp.e).set i (aE (f.cps[i].e) 11 [.s b.name]):=by
  simp[setAt,List.map_set,Cp.e,aE]
 rw[hc]
 simp only[fe,hc] at hF
 simp only[setAt] at hF⊢
 simp only[fe,jA,jB] at hcix
 simp only[apL,jC,jD,cw.d1,C.B_b,jR,C.L_l,hcix,ad,jI,C.I_i,jX,decide_true,jW,ltL hi,jY,getD_map' Cp.e hi,rows,List.length_cons,List.length_nil,Nat.zero_add,hn,hF,call4]
 simp[stS,Sp.e,af]
end
end Go.Ev
namespace Go.Ev
def spS (f:Fl) (s:List Sp):List C:=[.b (pE f).isSome,.b false,.l (s.map Sp.e),.b f.pack,.s (nxA (pE f)),.s (nxB (pE f)),.l [],.l [],.l [],.l (f.bts.map Bt.e),.l (f.svs.map Sv.e),.l (f.cps.map Cp.e),.l ((nxG (pE f)).map sE)]
def spT (f:Fl) (s:List Sp):List C:=[.b false,.l (s.map Sp.e),.b f.pack,.l [],.l [],.l [],.l (f.bts.map Bt.e),.l (f.svs.map Sv.e),.l (f.cps.map Cp.e)]
theorem CJ {f:Fl} (hv:VF f) (hz:f.Sz 1048576):lim (apn 13 cw.d1) (spS f [])=some (.brk 0 (spT (place 60 f []).1 (place 60 f []).2)):=by
 have hw:(waits f).length≤60:=Nat.le_trans (List.length_filter_le _ _) hv.n60
 exact yR (body:=apn 13 cw.d1) (S:=spS) (T:=spT) (o:=Out.brk 0) (fun _=>trivial)
  (fun f s hv hz hs x hx F=>by
   have:=zK hv hz hs hx F _ rfl
   have e:spS f s=[.b true,.b false,.l (s.map Sp.e),.b f.pack,.s x.1,.s x.2.1,.l [],.l [],.l [],.l (f.bts.map Bt.e),.l (f.svs.map Sv.e),.l (f.cps.map Cp.e),.l (x.2.2.map sE)]:=by
    simp only[spS,hx,nxA,nxB,nxG,Option.isSome_some]
   rw[e,this];rfl)
  (fun f s hv hz hs hx=>by
   have e:spS f s=[.b false,.b false,.l (s.map Sp.e),.b f.pack,.s (mkS []),.s (mkS []),.l [],.l [],.l [],.l (f.bts.map Bt.e),.l (f.svs.map Sv.e),.l (f.cps.map Cp.e),.l []]:=by
    simp only[spS,hx,nxA,nxB,nxG,Option.isSome_none,List.map_nil]
   rw[e]
   simp[cw.d1,spT])
  60 f [] hv hz hw (by simp)
def AH (f:Fl):Fl×List Sp:=bif bO f then place 60 f [] else (fl0,[])
def G7 (r:Fl×List Sp):List C:=[.b r.1.pack,.l (r.1.bts.map Bt.e),.l (r.1.svs.map Sv.e),.l (r.1.cps.map Cp.e),.l (r.2.map Sp.e)]
end Go.Ev
namespace Go.Ev
end Go.Ev
namespace Go.Ev
def BY (bs:List (List C)):Prop:=∀r,r∈bs→∃n:Int,r=[.i n]∧0≤n∧n≤255
theorem BY.get {bs:List (List C)} (h:BY bs) (k:Nat):0≤((bs.getD k []).getD 0 .nil).I∧((bs.getD k []).getD 0 .nil).I≤255:=by
 have hr:bs.getD k []=[]∨bs.getD k []∈bs:=by
  rcases Nat.lt_or_ge k bs.length with h|h
  ·right
   have:bs.getD k []=bs[k]:=by rw[List.getD_eq_getElem?_getD,List.getElem?_eq_getElem h];rfl
   rw[this];exact List.getElem_mem h
  ·left
   rw[List.getD_eq_getElem?_getD,List.getElem?_eq_none h];rfl
 generalize bs.getD k []=r at hr
 rcases hr with rfl|hr
 ·exact ⟨Int.le_refl 0,by decide⟩
 ·obtain ⟨n,rfl,h0,h1⟩:=h r hr
  exact ⟨h0,h1⟩
theorem JA {x y:Int} (hx:0≤x∧x<1152921504606846976) (hy:0≤y∧y<1152921504606846976):0≤w64 ((BitVec.ofInt (IntKind.bits .i64) x^^^BitVec.ofInt (IntKind.bits .i64) y).toNat:Int)∧w64 ((BitVec.ofInt (IntKind.bits .i64) x^^^BitVec.ofInt (IntKind.bits .i64) y).toNat:Int)<1152921504606846976:=by
 have e:∀z:Int,0≤z∧z<1152921504606846976→(BitVec.ofInt (IntKind.bits .i64) z).toNat=z.toNat:=fun z hz=>by
  rw[BitVec.toNat_ofInt]
  have:(2:Int)^IntKind.bits .i64=18446744073709551616:=by decide
  have h2:((2^IntKind.bits .i64:Nat):Int)=18446744073709551616:=by decide
  rw[h2,Int.emod_eq_of_lt hz.1 (by omega)]
 have h:(BitVec.ofInt (IntKind.bits .i64) x^^^BitVec.ofInt (IntKind.bits .i64) y).toNat<2^60:=by
  rw[BitVec.toNat_xor,e x hx,e y hy]
  exact Nat.xor_lt_two_pow (by omega) (by omega)
 generalize (BitVec.ofInt (IntKind.bits .i64) x^^^BitVec.ofInt (IntKind.bits .i64) y).toNat=m at*
 have:(2:Nat)^60=1152921504606846976:=by decide
 rw[aQ (by omega) (by omega)]
 omega
theorem bc {bs:List (List C)} (hb:BY bs) (hl:bs.length≤2000) {p n:Int} (h0:0≤p) (h1:p≤1125899906842624) (hn:1≤n) (hn2:n≤4294967296):
  ∃k:Nat,(k:Int)<n∧ae [.i n,.l bs,.i p]=some [.i k,.l bs,.i (p+1)]:=by
 have w1:w64 (p+1)=p+1:=aQ (by omega) (by omega)
 have w2:w64 (p+1-1)=p:=by rw[show p+1-1=p by omega];exact aQ (by omega) (by omega)
 have n1:¬n<1:=by omega
 have n2:(n !=0)=true:=by rw[bne_iff_ne];omega
 simp only[ae,ae.d1,apL,jC,jD,C.I_i,C.L_l,w1,w2,n1,n2,decide_false,ja,jR]
 by_cases hz:bs.length=0
 ·refine ⟨0,by omega,?_⟩
  simp[hz]
 have hz1:(((bs.length:Nat):Int)==0)=false:=by rw[beq_eq_false_iff_ne];omega
 have hz2:(((bs.length:Nat):Int) !=0)=true:=by rw[bne_iff_ne];omega
 have key:∀z:Int,0≤z→∃k:Nat,(k:Int)<n∧z.tmod n=(k:Int):=fun z hz=>by
  have h1:0≤z.tmod n:=Int.tmod_nonneg _ hz
  have h2:z.tmod n<n:=Int.tmod_lt_of_pos _ (by omega)
  exact ⟨(z.tmod n).toNat,by omega,by omega⟩
 by_cases hp:p<(bs.length:Int)
 ·obtain ⟨g0,g1⟩:=hb.get p.toNat
  have w3:w64 ((bs.getD p.toNat []).getD 0 .nil).I=((bs.getD p.toNat []).getD 0 .nil).I:=aQ (by omega) (by omega)
  obtain ⟨k,k1,k2⟩:=key _ g0
  refine ⟨k,k1,?_⟩
  simp only[hz1,hp,h0,decide_true,jR,jS,w3,k2,jV]
 ·have w4:w64 (p*7)=p*7:=aQ (by omega) (by omega)
  have w5:w64 (p*7+3)=p*7+3:=aQ (by omega) (by omega)
  have m1:0≤p.tmod bs.length∧p.tmod bs.length<bs.length:=⟨Int.tmod_nonneg _ h0,Int.tmod_lt_of_pos _ (by omega)⟩
  have m2:0≤(p*7+3).tmod bs.length∧(p*7+3).tmod bs.length<bs.length:=⟨Int.tmod_nonneg _ (by omega),Int.tmod_lt_of_pos _ (by omega)⟩
  simp only[hz1,hz2,hp,w4,w5,m1.1,m1.2,m2.1,m2.2,decide_true,decide_false,jR,jS]
  obtain ⟨a0,a1⟩:=hb.get (p.tmod bs.length).toNat
  obtain ⟨b0,b1⟩:=hb.get ((p*7+3).tmod bs.length).toNat
  generalize ((bs.getD (p.tmod bs.length).toNat []).getD 0 .nil).I=a at*
  generalize ((bs.getD ((p*7+3).tmod bs.length).toNat []).getD 0 .nil).I=b at*
  have d1:0≤p.tdiv bs.length∧p.tdiv bs.length≤p:=⟨Int.tdiv_nonneg h0 (by omega),Int.tdiv_le_self _ h0⟩
  generalize p.tdiv bs.length=q at*
  have v1:w64 a=a:=aQ (by omega) (by omega)
  have v2:w64 b=b:=aQ (by omega) (by omega)
  have v3:w64 (a*131)=a*131:=aQ (by omega) (by omega)
  have v4:w64 (b*1117)=b*1117:=aQ (by omega) (by omega)
  have v5:w64 (a*131+b*1117)=a*131+b*1117:=aQ (by omega) (by omega)
  have v6:w64 (p*29)=p*29:=aQ (by omega) (by omega)
  have v7:w64 (a*131+b*1117+p*29)=a*131+b*1117+p*29:=aQ (by omega) (by omega)
  have v8:w64 q=q:=aQ (by omega) (by omega)
  have v9:w64 (q*53)=q*53:=aQ (by omega) (by omega)
  have v10:w64 (a*131+b*1117+p*29+q*53)=a*131+b*1117+p*29+q*53:=aQ (by omega) (by omega)
  have hx:0≤a*131+b*1117+p*29+q*53∧a*131+b*1117+p*29+q*53<1152921504606846976:=by omega
  simp only[v1,v2,v3,v4,v5,v6,v7,v8,v9,v10]
  generalize a*131+b*1117+p*29+q*53=x at*
  have e1:0≤x.tdiv 64∧x.tdiv 64≤x:=⟨Int.tdiv_nonneg hx.1 (by omega),Int.tdiv_le_self _ hx.1⟩
  have v11:w64 (x.tdiv 64)=x.tdiv 64:=aQ (by omega) (by omega)
  have:=JA hx (y:=x.tdiv 64) (by omega)
  simp only[v11] at*
  obtain ⟨k,k1,k2⟩:=key _ this.1
  exact ⟨k,k1,by simp only[k2,jV]⟩
theorem JO {bs:List (List C)} {p n:Int} (h0:0≤p) (h1:p≤1125899906842624) (hn:n<1):ae [.i n,.l bs,.i p]=some [.i 0,.l bs,.i (p+1)]:=by
 have w1:w64 (p+1)=p+1:=aQ (by omega) (by omega)
 simp only[ae,ae.d1,apL,jC,jD,C.I_i,C.L_l,w1,hn,decide_true,jZ,jS,jV]
end Go.Ev
