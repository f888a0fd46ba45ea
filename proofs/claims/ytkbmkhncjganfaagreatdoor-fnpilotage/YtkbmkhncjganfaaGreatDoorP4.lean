/- Proved here: the law FnPilotAgeCard of the given program answers true at every input, and leaves the input as it was; no condition. This text: lemmas on the way (an evaluator of the program's code, sound once for all; the functions it prints; plain proofs on these). -/
import Derived.Test.YtkbmkhncjganfaaGreatDoorP3
set_option linter.all false
set_option autoImplicit false
set_option maxRecDepth 8000
namespace Go.Ev
def Tr.enc:Tr→C
 |.lf k n v=>.p [.i (k:Nat),.s (mkS n),.s (mkS v),.l []]
 |.un t=>.p [.i 3,.s (mkS []),.s (mkS []),.l [[t.enc]]]
 |.bn k a b=>.p [.i (k:Nat),.s (mkS []),.s (mkS []),.l [[a.enc],[b.enc]]]
def I6 (s:Str) (n:Nat) (p:Option (Tr×List Tok)) (c:C) (i':Nat) (ok:Bool):Prop:=
 i'≤s.data.toList.length∧match p with
  |some (t,r)=>ok=true∧c=t.enc∧dm (s.data.toList.drop i')=r∧r.length<n
  |none=>ok=false
def IP (s:Str) (G:List C→Option (List C)) (f:List Tok→Option (Tr×List Tok)) (i:Nat):Prop:=
 ∃c i' ok,G [.s s,.i i,.b true]=some [c,.s s,.i (i':Nat),.b ok]∧I6 s (dm (s.data.toList.drop i)).length (f (dm (s.data.toList.drop i))) c i' ok
section
variable {s:Str} (hl:s.size≤1048576)
include hl
theorem F8 (G:List C→Option (List C)) (f:List Tok→Option (Tr×List Tok)) (op:UInt8) (kd:Nat) (body:C→C→C→C→R) (lo:Nat) (h1:dB op=false) (h2:op≠32)
  (hb:∀a b c d,body a b c d=(bif d.B then (call4 (bh [.i (op.toNat:Nat),b,c,d]) fun e f g h=>(bif e.B then (call4 (G [f,g,h]) fun i j k l=>(some (.again [.p [.i (kd:Nat),.s (bs #[]),.s (bs #[]),.l (rows [[a],[i]])],j,k,l]))) else (some (.brk 0 [a,f,g,h])))) else (some (.brk 0 [a,b,c,d]))))
  (hG:∀i,i≤s.data.toList.length→(dm (s.data.toList.drop i)).length≤lo→IP s G f i):
  ∀(m i:Nat) (t:Tr),(dm (s.data.toList.drop i)).length≤m→(dm (s.data.toList.drop i)).length≤lo+1→i≤s.data.toList.length→
   ∃c i' ok,lim (ap4 body) [t.enc,.s s,.i i,.b true]=some (.brk 0 [c,.s s,.i (i':Nat),.b ok])∧i'≤s.data.toList.length∧
    match opL f [op] kd m t (dm (s.data.toList.drop i)) with
     |some (u,r)=>ok=true∧c=u.enc∧dm (s.data.toList.drop i')=r∧r.length≤(dm (s.data.toList.drop i)).length
     |none=>ok=false
 |m,i,t,hm,hlo,hi=>by
  obtain ⟨i',hi',b,ht,hm2⟩:=tH hl op h1 h2 i true hi
  have hstep:ap4 body [t.enc,.s s,.i i,.b true]=(bif b then (call4 (G [.s s,.i (i':Nat),.b true]) fun i j k l=>(some (.again [.p [.i (kd:Nat),.s (mkS []),.s (mkS []),.l [[t.enc],[i]]],j,k,l]))) else (some (.brk 0 [t.enc,.s s,.i (i':Nat),.b true]))):=by
   simp only[apL,jC,jD,hb,C.B_b,jR,ht,call4,jI,eU,rows]
  cases hd:dm (s.data.toList.drop i) with
  |nil=>
   rw[hd] at hm2
   simp only at hm2
   obtain ⟨rfl,hm3⟩:=hm2
   refine ⟨t.enc,i',true,aQ hstep,hi',?_⟩
   cases m<;>simp[opL,hm3]
  |cons x r=>
   rw[hd] at hm2 hm hlo
   simp only[List.length_cons] at hm hlo
   obtain ⟨m,rfl⟩:∃m',m=m'+1:=⟨m-1,by omega⟩
   by_cases he:x=[op]
   ·simp only[if_pos he] at hm2
    obtain ⟨rfl,hm3⟩:=hm2
    obtain ⟨c,i2,ok,hg,q1,q2⟩:=hG i' hi' (by rw[hm3];omega)
    rw[hm3] at q2
    simp only[jR,hg,call4,jI,jC,jD] at hstep
    rw[aG hstep]
    simp only[opL,if_pos he]
    cases hf:f r with
    |none=>
     rw[hf] at q2
     simp only at q2
     subst q2
     exact ⟨.p [.i (kd:Nat),.s (mkS []),.s (mkS []),.l [[t.enc],[c]]],i2,false,aQ (by simp only[apL,jC,jD,hb,C.B_b,jS]),q1,rfl⟩
    |some p=>
     obtain ⟨u,r'⟩:=p
     rw[hf] at q2
     obtain ⟨rfl,rfl,q3,q4⟩:=q2
     obtain ⟨c3,i3,ok3,p1,p2,p3⟩:=F8 G f op kd body lo h1 h2 hb hG m i2 (.bn kd t u) (by rw[q3];omega) (by rw[q3];omega) q1
     refine ⟨c3,i3,ok3,p1,p2,?_⟩
     rw[q3] at p3
     simp only
     cases ho:opL f [op] kd m (.bn kd t u) r' with
     |none=>rw[ho] at p3;exact p3
     |some z=>
      rw[ho] at p3
      exact ⟨p3.1,p3.2.1,p3.2.2.1,by simp only[List.length_cons];have:=p3.2.2.2;omega⟩
   ·simp only[if_neg he] at hm2
    obtain ⟨rfl,hm3⟩:=hm2
    refine ⟨t.enc,i',true,aQ hstep,hi',?_⟩
    simp[opL,he,hm3]
theorem Ix (G:List C→Option (List C)) (f:List Tok→Option (Tr×List Tok)) (op:UInt8) (kd:Nat) (body:C→C→C→C→R) (d2:C→C→C→C→R) (i:Nat) (hi:i≤s.data.toList.length) (h1:dB op=false) (h2:op≠32)
  (hb:∀a b c d,body a b c d=(bif d.B then (call4 (bh [.i (op.toNat:Nat),b,c,d]) fun e f g h=>(bif e.B then (call4 (G [f,g,h]) fun i j k l=>(some (.again [.p [.i (kd:Nat),.s (bs #[]),.s (bs #[]),.l (rows [[a],[i]])],j,k,l]))) else (some (.brk 0 [a,f,g,h])))) else (some (.brk 0 [a,b,c,d]))))
  (h3:∀a b c d,d2 a b c d=some (.ret [a,b,c,d])) (hG:∀i2,i2≤s.data.toList.length→(dm (s.data.toList.drop i2)).length≤(dm (s.data.toList.drop i)).length→IP s G f i2):
  ∃c i' ok,aZ (call4 (G [.s s,.i i,.b true]) fun d e f g=>(ai 0 (lim (ap4 body) [d,e,f,g]) (ap4 d2)))=some [c,.s s,.i (i':Nat),.b ok]∧
   I6 s (dm (s.data.toList.drop i)).length (match f (dm (s.data.toList.drop i)) with
   |none=>none
   |some (t,r)=>opL f [op] kd r.length t r) c i' ok:=by
 obtain ⟨c,i',ok,hg,q1,q2⟩:=hG i hi (Nat.le_refl _)
 rw[hg]
 simp only[call4,jI,jC,jD]
 cases hf:f (dm (s.data.toList.drop i)) with
 |none=>
  rw[hf] at q2
  simp only at q2
  subst q2
  refine ⟨c,i',false,?_,q1,rfl⟩
  rw[aQ (ys:=[c,.s s,.i (i':Nat),.b false]) (i:=0) (by simp[hb])]
  simp[h3]
 |some p=>
  obtain ⟨t,r⟩:=p
  rw[hf] at q2
  obtain ⟨rfl,rfl,q3,q4⟩:=q2
  obtain ⟨c2,i2,ok2,p1,p2,p3⟩:=F8 hl G f op kd body (dm (s.data.toList.drop i)).length h1 h2 hb hG r.length i' t (by rw[q3];omega) (by rw[q3];omega) q1
  rw[p1]
  rw[q3] at p3
  have hres:I6 s (dm (s.data.toList.drop i)).length (opL f [op] kd r.length t r) c2 i2 ok2:=by
   refine ⟨p2,?_⟩
   cases ho:opL f [op] kd r.length t r with
   |none=>rw[ho] at p3;exact p3
   |some z=>
    rw[ho] at p3
    exact ⟨p3.1,p3.2.1,p3.2.2.1,by have:=p3.2.2.2;omega⟩
  exact ⟨c2,i2,ok2,by simp[h3],hres⟩
theorem Il:∀(j c k i:Nat),c≤2→i≤s.data.toList.length→3*(dm (s.data.toList.drop i)).length+(3-c)≤j→j≤k→IP s (ar.g k c) (prs j c) i
 |0,c,k,i,hc,hi,hj,hk=>by omega
 |j+1,c,k,i,hc,hi,hj,hk=>by
  obtain ⟨k,rfl⟩:∃k',k=k'+1:=⟨k-1,by omega⟩
  have ih:=Il j
  rcases (show c=0∨c=1∨c=2 by omega) with rfl|rfl|rfl
  ·obtain ⟨c,i',ok,h1,h2⟩:=Ix hl (ar.g k 1) (prs j 1) 124 5 (ar.d1 (ar.g k 0) (ar.g k 1) (ar.g k 2)) (ar.d2 (ar.g k 0) (ar.g k 1) (ar.g k 2)) i hi rfl (by decide)
    (fun _ _ _ _=>rfl) (fun _ _ _ _=>rfl) (fun b h1 h2=>ih 1 k b (by omega) h1 (by omega) (by omega))
   exact ⟨c,i',ok,h1,h2⟩
  ·obtain ⟨c,i',ok,h1,h2⟩:=Ix hl (ar.g k 2) (prs j 2) 38 4 (dA.d1 (ar.g k 0) (ar.g k 1) (ar.g k 2)) (dA.d2 (ar.g k 0) (ar.g k 1) (ar.g k 2)) i hi rfl (by decide)
    (fun _ _ _ _=>rfl) (fun _ _ _ _=>rfl) (fun b h1 h2=>ih 2 k b (by omega) h1 (by omega) (by omega))
   exact ⟨c,i',ok,h1,h2⟩
  ·have hstep:ar.g (k+1) 2 [.s s,.i i,.b true]=aZ (eZ.d1 (ar.g k 0) (ar.g k 1) (ar.g k 2) (.s s) (.i i) (.b true)):=rfl
   unfold IP
   rw[hstep]
   obtain ⟨i1,hi1,b1,ht1,hm1⟩:=tH hl 33 rfl (by decide) i true hi
   have ht1:bh [.i 33,.s s,.i i,.b true]=_:=ht1
   simp only[eZ.d1,C.B_b,jZ,jS,ht1,call4,jI,jC,jD]
   cases hd:dm (s.data.toList.drop i) with
   |nil=>
    rw[hd] at hm1
    simp only at hm1
    obtain ⟨rfl,hm1⟩:=hm1
    obtain ⟨i2,hi2,b2,ht2,hm2⟩:=tH hl 40 rfl (by decide) i1 true hi1
    have ht2:bh [.i 40,.s s,.i i1,.b true]=_:=ht2
    rw[hm1] at hm2
    simp only at hm2
    obtain ⟨rfl,hm2⟩:=hm2
    obtain ⟨i3,hi3,z,b3,hn3,hm3⟩:=Ct hl i2 true hi2
    rw[hm2] at hm3
    simp only at hm3
    subst hm3
    simp only[jS,ht2,hn3,jI,jC,jD,C.B_b,jV]
    exact ⟨_,_,_,rfl,hi3,by simp[prs]⟩
   |cons x r=>
    rw[hd] at hm1 hj
    simp only[List.length_cons] at hj
    by_cases x33:x=[33]
    ·simp only[if_pos x33] at hm1
     obtain ⟨rfl,hm1⟩:=hm1
     obtain ⟨c,i2,ok,hg,q1,q2⟩:=ih 2 k i1 (by omega) hi1 (by rw[hm1];omega) (by omega)
     rw[hm1] at q2
     simp only[jR,hg,jI,jC,jD,rows,eU,jV]
     refine ⟨_,_,_,rfl,q1,?_⟩
     simp only[prs,x33,if_true]
     cases hf:prs j 2 r with
     |none=>rw[hf] at q2;exact q2
     |some p=>
      rw[hf] at q2
      obtain ⟨rfl,rfl,q3,q4⟩:=q2
      exact ⟨rfl,rfl,q3,by simp only[List.length_cons];omega⟩
    simp only[if_neg x33] at hm1
    obtain ⟨rfl,hm1⟩:=hm1
    obtain ⟨i2,hi2,b2,ht2,hm2⟩:=tH hl 40 rfl (by decide) i1 true hi1
    have ht2:bh [.i 40,.s s,.i i1,.b true]=_:=ht2
    rw[hm1] at hm2
    simp only at hm2
    simp only[jS,ht2,jI,jC,jD,C.B_b]
    by_cases x40:x=[40]
    ·simp only[if_pos x40] at hm2
     obtain ⟨rfl,hm2⟩:=hm2
     obtain ⟨c,i3,ok,hg,q1,q2⟩:=ih 0 k i2 (by omega) hi2 (by rw[hm2];omega) (by omega)
     rw[hm2] at q2
     have hp:prs (j+1) 2 (x::r)=match prs j 0 r with
       |some (t,y::r')=>if y=[41] then some (t,r') else none
       |_=>none:=by
      simp only[prs,if_neg x33,if_pos x40]<;>rcases prs j 0 r with _|⟨t,_|⟨y,r'⟩⟩<;>rfl
     rw[hp]
     simp only[jR,hg,jI,jC,jD,C.B_b]
     cases hf:prs j 0 r with
     |none=>
      rw[hf] at q2
      simp only at q2
      subst q2
      simp only[jS,jV]
      exact ⟨_,_,_,rfl,q1,rfl⟩
     |some p=>
      obtain ⟨t,z⟩:=p
      rw[hf] at q2
      obtain ⟨rfl,rfl,q3,q4⟩:=q2
      obtain ⟨i4,hi4,b4,ht4,hm4⟩:=tH hl 41 rfl (by decide) i3 true q1
      have ht4:bh [.i 41,.s s,.i i3,.b true]=_:=ht4
      rw[q3] at hm4
      simp only[jR,ht4,jI,jC,jD,C.B_b,jV]
      refine ⟨_,_,_,rfl,hi4,?_⟩
      cases z with
      |nil=>exact hm4.1
      |cons y r'=>
       simp only at hm4⊢
       by_cases y41:y=[41]
       ·simp only[if_pos y41] at hm4⊢
        simp only[List.length_cons] at q4⊢
        exact ⟨hm4.1,trivial,hm4.2,by omega⟩
       ·simp only[if_neg y41] at hm4⊢
        exact hm4.1
    simp only[if_neg x40] at hm2
    obtain ⟨rfl,hm2⟩:=hm2
    obtain ⟨i3,hi3,z,b3,hn3,hm3⟩:=Ct hl i2 true hi2
    rw[hm2] at hm3
    simp only at hm3
    simp only[jS,hn3,jI,jC,jD,C.B_b]
    cases hn:aS (mkS x) with
    |false=>
     rw[hn] at hm3
     simp only[Bool.false_eq_true,if_false] at hm3
     subst hm3
     simp only[jS,jV]
     exact ⟨_,_,_,rfl,hi3,by simp[prs,x33,x40,hn]⟩
    |true=>
     rw[hn] at hm3
     simp only[if_true] at hm3
     obtain ⟨rfl,rfl,hm3⟩:=hm3
     obtain ⟨i4,hi4,b4,ht4,hm4⟩:=tH hl 61 rfl (by decide) i3 true hi3
     have ht4:bh [.i 61,.s s,.i i3,.b true]=_:=ht4
     rw[hm3] at hm4
     simp only[jR,ht4,jI,jC,jD,C.B_b]
     cases r with
     |nil=>
      simp only at hm4
      obtain ⟨rfl,hm4⟩:=hm4
      simp only[jS,rows,ao,eU,jV]
      refine ⟨_,_,_,rfl,hi4,?_⟩
      simp only[prs,if_neg x33,if_neg x40,hn,if_true]
      exact ⟨trivial,rfl,hm4,by simp⟩
     |cons y r'=>
      simp only at hm4
      by_cases y61:y=[61]
      ·simp only[if_pos y61] at hm4
       obtain ⟨rfl,hm4⟩:=hm4
       obtain ⟨i5,hi5,z5,b5,hn5,hm5⟩:=Ct hl i4 true hi4
       rw[hm4] at hm5
       simp only[jR,hn5,jI,jC,jD,rows,ao,jV]
       refine ⟨_,_,_,rfl,hi5,?_⟩
       cases r' with
       |nil=>
        simp only at hm5
        subst hm5
        simp[prs,x33,x40,hn,y61]
       |cons v r''=>
        simp only at hm5
        cases hv:aS (mkS v) with
        |false=>
         rw[hv] at hm5
         simp only[Bool.false_eq_true,if_false] at hm5
         subst hm5
         simp[prs,x33,x40,hn,y61,hv]
        |true=>
         rw[hv] at hm5
         simp only[if_true] at hm5
         obtain ⟨rfl,rfl,hm5⟩:=hm5
         simp only[prs,if_neg x33,if_neg x40,hn,if_true,y61,hv]
         exact ⟨trivial,rfl,hm5,by simp only[List.length_cons];omega⟩
      ·simp only[if_neg y61] at hm4
       obtain ⟨rfl,hm4⟩:=hm4
       simp only[jS,rows,ao,eU,jV]
       refine ⟨_,_,_,rfl,hi4,?_⟩
       simp only[prs,if_neg x33,if_neg x40,hn,if_true,if_neg y61]
       exact ⟨trivial,rfl,hm4,by simp⟩
end
end Go.Ev
namespace Go.Ev
def Tr.Wf:Tr→Prop
 |.lf k n v=>aS (mkS n)=true∧((k=1∧v=[])∨(k=2∧aS (mkS v)=true))
 |.un t=>t.Wf
 |.bn k a b=>(k=4∨k=5)∧a.Wf∧b.Wf
def Tr.sz:Tr→Nat
 |.lf _ _ _=>1
 |.un t=>t.sz+1
 |.bn _ a b=>a.sz+b.sz+1
def Tr.depth:Tr→Nat
 |.lf _ _ _=>0
 |.un t=>t.depth+1
 |.bn _ a b=>max a.depth b.depth+1
theorem Tr.rC:∀t:Tr,0<t.sz
 |.lf _ _ _=>by simp[Tr.sz]
 |.un t=>by simp[Tr.sz]
 |.bn _ a b=>by simp[Tr.sz]
theorem Tr.lQ:∀t:Tr,t.depth<t.sz
 |.lf _ _ _=>by simp[Tr.sz,Tr.depth]
 |.un t=>by have:=t.lQ;simp[Tr.sz,Tr.depth];exact this
 |.bn _ a b=>by have:=a.lQ;have:=b.lQ;simp only[Tr.sz,Tr.depth];omega
theorem Tr.bT:∀t:Tr,t.flat.length=t.sz
 |.lf _ _ _=>rfl
 |.un t=>by simp[Tr.flat,Tr.sz,t.bT]
 |.bn _ a b=>by simp[Tr.flat,Tr.sz,a.bT,b.bT];omega
def r9 (x:Tok):Prop:=aS (mkS x)=true∨x=[33]∨x=[40]∨x=[41]∨x=[61]∨x=[124]∨x=[38]
def Pre (l:List Tok) (t:Tr) (r:List Tok):Prop:=∃p,l=p++r∧(∀x,x∈p→r9 x)∧t.sz≤p.length∧t.Wf
theorem B6 (f:List Tok→Option (Tr×List Tok)) (op:Tok) (kd:Nat) (hop:r9 op) (hk:kd=4∨kd=5) (hf:∀l t r,f l=some (t,r)→Pre l t r):∀(m:Nat) (t:Tr) (l:List Tok) (u:Tr) (r l0:List Tok),
  Pre l0 t l→opL f op kd m t l=some (u,r)→Pre l0 u r
 |0,t,l,u,r,l0,h0,h=>by
  simp only[opL,Option.some.injEq,Prod.mk.injEq] at h
  obtain ⟨rfl,rfl⟩:=h;exact h0
 |m+1,t,[],u,r,l0,h0,h=>by
  simp only[opL,Option.some.injEq,Prod.mk.injEq] at h
  obtain ⟨rfl,rfl⟩:=h;exact h0
 |m+1,t,x::l,u,r,l0,h0,h=>by
  simp only[opL] at h
  split at h
  ·rename_i hx
   split at h
   ·simp at h
   ·rename_i t' r'' hq
    refine B6 f op kd hop hk hf m _ _ u r l0 ?_ h
    obtain ⟨p,rfl,q2,q3,q4⟩:=h0
    obtain ⟨p',rfl,q2',q3',q4'⟩:=hf _ _ _ hq
    refine ⟨p++x::p',by simp,fun y hy=>?_,by simp[Tr.sz];omega,hk,q4,q4'⟩
    rcases List.mem_append.1 hy with hy|hy
    ·exact q2 y hy
    ·rcases List.mem_cons.1 hy with rfl|hy
     ·rw[hx];exact hop
     ·exact q2' y hy
  ·simp only[Option.some.injEq,Prod.mk.injEq] at h
   obtain ⟨rfl,rfl⟩:=h;exact h0
theorem mC:∀(j c:Nat) (l:List Tok) (t:Tr) (r:List Tok),prs j c l=some (t,r)→Pre l t r
 |0,c,l,t,r,h=>by simp[prs] at h
 |j+1,0,l,t,r,h=>by
  simp only[prs] at h
  split at h
  ·simp at h
  ·rename_i t' r' hq
   exact B6 (prs j 1) [124] 5 (by simp[r9]) (.inr rfl) (fun l t r=>mC j 1 l t r) _ _ _ _ _ l (mC j 1 _ _ _ hq) h
 |j+1,1,l,t,r,h=>by
  simp only[prs] at h
  split at h
  ·simp at h
  ·rename_i t' r' hq
   exact B6 (prs j 2) [38] 4 (by simp[r9]) (.inl rfl) (fun l t r=>mC j 2 l t r) _ _ _ _ _ l (mC j 2 _ _ _ hq) h
 |j+1,c+2,[],t,r,h=>by simp[prs] at h
 |j+1,c+2,x::l,t,r,h=>by
  simp only[prs] at h
  split at h
  ·rename_i hx
   split at h
   ·simp at h
   ·rename_i t' r' hq
    simp only[Option.some.injEq,Prod.mk.injEq] at h
    obtain ⟨rfl,rfl⟩:=h
    obtain ⟨p,rfl,q2,q3,q4⟩:=mC j 2 _ _ _ hq
    refine ⟨x::p,rfl,fun y hy=>?_,by simp[Tr.sz];omega,q4⟩
    rcases List.mem_cons.1 hy with rfl|hy
    ·rw[hx];simp[r9]
    ·exact q2 y hy
  ·split at h
   ·rename_i hx
    split at h
    ·rename_i t' y r' hq
     split at h
     ·rename_i hy41
      simp only[Option.some.injEq,Prod.mk.injEq] at h
      obtain ⟨rfl,rfl⟩:=h
      obtain ⟨p,hp,q2,q3,q4⟩:=mC j 0 _ _ _ hq
      refine ⟨x::(p++[y]),by rw[hp];simp,fun z hz=>?_,by simp;omega,q4⟩
      rcases List.mem_cons.1 hz with rfl|hz
      ·rw[hx];simp[r9]
      ·rcases List.mem_append.1 hz with hz|hz
       ·exact q2 z hz
       ·simp at hz;subst hz;rw[hy41];simp[r9]
     ·simp at h
    ·simp at h
   ·split at h
    ·rename_i hn
     split at h
     ·rename_i y r'
      split at h
      ·rename_i hy61
       split at h
       ·rename_i v r''
        split at h
        ·rename_i hv
         simp only[Option.some.injEq,Prod.mk.injEq] at h
         obtain ⟨rfl,rfl⟩:=h
         refine ⟨[x,y,v],rfl,fun z hz=>?_,by simp[Tr.sz],hn,.inr ⟨rfl,hv⟩⟩
         simp at hz
         rcases hz with rfl|rfl|rfl
         ·exact .inl hn
         ·rw[hy61];simp[r9]
         ·exact .inl hv
        ·simp at h
       ·simp at h
      ·simp only[Option.some.injEq,Prod.mk.injEq] at h
       obtain ⟨rfl,rfl⟩:=h
       refine ⟨[x],rfl,fun z hz=>?_,by simp[Tr.sz],hn,.inl ⟨rfl,rfl⟩⟩
       simp at hz;subst hz;exact .inl hn
     ·simp only[Option.some.injEq,Prod.mk.injEq] at h
      obtain ⟨rfl,rfl⟩:=h
      refine ⟨[x],rfl,fun z hz=>?_,by simp[Tr.sz],hn,.inl ⟨rfl,rfl⟩⟩
      simp at hz;subst hz;exact .inl hn
    ·simp at h
theorem y0:∀r:List UInt8,r.all gN=(r.dropWhile dB).all gN
 |[]=>rfl
 |x::r=>by
  rw[List.dropWhile_cons]
  cases hx:dB x with
  |true=>simp only[if_true,List.all_cons];rw[y0 r];simp[gN,hx]
  |false=>simp
theorem qk:∀(n:Nat) (l:List UInt8),l.length≤n→(∀x,x∈dm l→r9 x)→l.all gN=true
 |n,[],hn,h=>rfl
 |0,c::r,hn,h=>by simp at hn
 |n+1,c::r,hn,h=>by
  simp only[List.length_cons] at hn
  rw[dm.eq_2] at h
  split at h
  ·rename_i h32
   subst h32
   have:=qk n r (by omega) h
   simp[gN] at this⊢
   exact this
  ·rename_i h32
   split at h
   ·rename_i hc
    have hdl:=(List.dropWhile_suffix (l:=r) dB).length_le
    have:=qk n (r.dropWhile dB) (by omega) fun x hx=>h x (by simp[hx])
    rw[List.all_cons,y0 r,this]
    simp[gN,hc]
   ·rename_i hc
    have h1:=h [c] (by simp)
    have:=qk n r (by omega) fun x hx=>h x (by simp[hx])
    rw[List.all_cons,this]
    have hn1:aS (mkS [c])=false:=by simp[aS,gF,hc]
    rcases h1 with h1|h1|h1|h1|h1|h1|h1
    ·rw[hn1] at h1;simp at h1
    all_goals (simp at h1;subst h1;rfl)
theorem p8:∀(n:Nat) (l:List UInt8),l.length≤n→(dm l).length≤l.length∧∀x,x∈dm l→x.length≤l.length
 |n,[],hn=>by simp[dm]
 |0,c::r,hn=>by simp at hn
 |n+1,c::r,hn=>by
  simp only[List.length_cons] at hn⊢
  rw[dm.eq_2]
  split
  ·obtain ⟨h1,h2⟩:=p8 n r (by omega)
   exact ⟨by omega,fun x hx=>by have:=h2 x hx;omega⟩
  ·split
   ·have hdl:=(List.dropWhile_suffix (l:=r) dB).length_le
    have htl:=qg dB r
    obtain ⟨h1,h2⟩:=p8 n (r.dropWhile dB) (by omega)
    refine ⟨by simp;omega,fun x hx=>?_⟩
    rcases List.mem_cons.1 hx with rfl|hx
    ·simp;omega
    ·have:=h2 x hx;omega
   ·obtain ⟨h1,h2⟩:=p8 n r (by omega)
    refine ⟨by simp;omega,fun x hx=>?_⟩
    rcases List.mem_cons.1 hx with rfl|hx
    ·simp
    ·have:=h2 x hx;omega
end Go.Ev
namespace Go.Ev
theorem sW {n:Nat} (h:n<big):w64 ((n:Int)+1)=((n+1:Nat):Int):=by
 simp only[big] at h;rw[aP (by omega) (by omega)];rfl
theorem vA:∀(k:Nat) (t:Tr),t.depth<k→t.depth<big→au.g k 0 [t.enc]=some [.i (t.depth:Nat)]
 |0,t,h,_=>by omega
 |k+1,t,h,hb=>by
  have hs:∀x,au.g (k+1) 0 x=au.step (au.g k 0) x:=fun _=>rfl
  rw[hs]
  have w0:w64 1=1:=aP (by omega) (by omega)
  have w2:w64 2=2:=aP (by omega) (by omega)
  cases t with
  |lf kd n v=>
   have h0:ap4 (au.d1 (au.g k 0)) [.i 0,.l [],.i 0,.i 0]=some (.brk 0 [.i 0]):=by simp[au.d1]
   simp only[au.step,au.d3,apL,jC,jD,Tr.enc,C.ui,jR,C.P_p,C.L_l,List.length_nil,Int.ofNat_zero,Int.natCast_zero]
   rw[aQ h0]
   simp[au.d2,Tr.depth]
  |un t=>
   simp only[Tr.depth] at h hb
   have ih:=vA k t (by omega) (by omega)
   have h0:ap4 (au.d1 (au.g k 0)) [.i 0,.l [[t.enc]],.i 1,.i 0]=some (.again [.i (t.depth+1:Nat),.l [[t.enc]],.i 1,.i 1]):=by
    have hgt:(((t.depth+1:Nat):Int))>0:=by omega
    simp[au.d1,ih,ad,sW (show t.depth<big by omega),w0]
   have h1:ap4 (au.d1 (au.g k 0)) [.i (t.depth+1:Nat),.l [[t.enc]],.i 1,.i 1]=some (.brk 0 [.i (t.depth+1:Nat)]):=by simp[au.d1]
   simp only[au.step,au.d3,apL,jC,jD,Tr.enc,C.ui,jR,C.P_p,C.L_l,List.length_cons,List.length_nil]
   erw[aG h0,aQ h1]
   simp[au.d2,Tr.depth]
  |bn kd a b=>
   simp only[Tr.depth] at h hb
   have iha:=vA k a (by omega) (by omega)
   have ihb:=vA k b (by omega) (by omega)
   have h0:ap4 (au.d1 (au.g k 0)) [.i 0,.l [[a.enc],[b.enc]],.i 2,.i 0]=some (.again [.i (a.depth+1:Nat),.l [[a.enc],[b.enc]],.i 2,.i 1]):=by
    simp[au.d1,iha,ad,sW (show a.depth<big by omega),w0]
   have h1:ap4 (au.d1 (au.g k 0)) [.i (a.depth+1:Nat),.l [[a.enc],[b.enc]],.i 2,.i 1]=some (.again [.i (max a.depth b.depth+1:Nat),.l [[a.enc],[b.enc]],.i 2,.i 2]):=by
    have e:(1:Int)<2:=by omega
    simp only[apL,jC,jD,au.d1,C.I_i,C.L_l,e,decide_true,jR,List.length_cons,List.length_nil,Int.toNat_one,ihb,ad,jI,sW (show b.depth<big by omega)]
    have w2':w64 (1+1)=2:=w2
    rw[w2']
    simp
    split<;>omega
   have h2:ap4 (au.d1 (au.g k 0)) [.i (max a.depth b.depth+1:Nat),.l [[a.enc],[b.enc]],.i 2,.i 2]=some (.brk 0 [.i (max a.depth b.depth+1:Nat)]):=by simp[au.d1]
   simp only[au.step,au.d3,apL,jC,jD,Tr.enc,C.ui,jR,C.P_p,C.L_l,List.length_cons,List.length_nil]
   erw[aG h0,aG h1,aQ h2]
   simp[au.d2,Tr.depth]
def Tr.kids:Tr→Nat→List (List C)
 |.lf _ _ _,o=>[[.l []]]
 |.un t,o=>t.kids o++[[.l [[.i (o+t.sz-1:Nat)]]]]
 |.bn _ a b,o=>a.kids o++b.kids (o+a.sz)++[[.l [[.i (o+a.sz-1:Nat)],[.i (o+a.sz+b.sz-1:Nat)]]]]
theorem Tr.cI:∀(t:Tr) (o:Nat),(t.kids o).length=t.sz
 |.lf _ _ _,o=>rfl
 |.un t,o=>by simp[Tr.kids,Tr.sz,t.cI]
 |.bn _ a b,o=>by simp[Tr.kids,Tr.sz,a.cI,b.cI];omega
theorem wW {N:List (List C)} {o m:Nat} {kd:Nat} {n v:Tok} {out stk:List (List C)} (hN:N.length≤1048576) (ho:o<N.length) (hn:N[o]=node kd n v m) (h1:m≤stk.length) (h2:stk.length≤o) (h3:out.length≤o):
  ap4 dP.d1 [.i o,.l N,.l out,.l stk]=some (.again [.i (o+1:Nat),.l N,.l (out++[[.l (stk.drop (stk.length-m))]]),.l (stk.take (stk.length-m)++[[.i (o:Nat)]])]):=by
 have hg:N.getD o []=node kd n v m:=by rw[List.getD_eq_getElem?_getD,List.getElem?_eq_getElem ho,hn];rfl
 have hw:w64 ((stk.length:Int)-(m:Int))=((stk.length-m:Nat):Int):=by rw[aP (by omega) (by omega)];omega
 have hw1:=w1 ho (show N.length<big by simp only[big];omega)
 have e1:¬((m:Int)<0):=by omega
 have e2:¬((m:Int)>(stk.length:Int)):=by omega
 have e3:((stk.length-m:Nat):Int)≤(stk.length:Int):=by omega
 have e4:(stk.drop (stk.length-m)).length≤4294967296:=by rw[List.length_drop];omega
 have e5:out.length+1≤4294967296:=by omega
 have e6:(stk.take (stk.length-m)).length+1≤4294967296:=by rw[List.length_take];omega
 simp only[apL,jC,jD,dP.d1,C.I_i,C.L_l,jY,hg,node,hw,hw1,List.take_length,List.drop_zero,ao,rows,jB,List.length_nil,List.length_cons,Nat.zero_add,e1,e2,e3,e4,e5,e6,decide_true,decide_false,jR,jS,ja,jX,Int.le_refl]
 simp[ho]
theorem iB {α:Type} {N l r:List α} {o:Nat} {x:α} (h:N.drop o=l++x::r):∃h:o+l.length<N.length,N[o+l.length]=x:=by
 have h2:N.drop (o+l.length)=x::r:=by rw[←List.drop_drop,h];simp
 obtain ⟨h3,h4,_⟩:=drop_cons h2
 exact ⟨h3,h4⟩
theorem zC {N:List (List C)} (hN:N.length≤1048576):∀(t:Tr) (o:Nat) (out stk r:List (List C)),N.drop o=t.flat++r→stk.length≤o→out.length≤o→
  lim (ap4 dP.d1) [.i o,.l N,.l out,.l stk]=lim (ap4 dP.d1) [.i (o+t.sz:Nat),.l N,.l (out++t.kids o),.l (stk++[[.i (o+t.sz-1:Nat)]])]
 |.lf kd n v,o,out,stk,r,h,hs,ho=>by
  obtain ⟨h1,h2,_⟩:=drop_cons (show N.drop o=node kd n v 0::r from h)
  rw[aG (wW hN h1 h2 (Nat.zero_le _) hs ho)]
  simp[Tr.sz,Tr.kids]
 |.un t,o,out,stk,r,h,hs,ho=>by
  have h':N.drop o=t.flat++(node 3 [] [] 1::r):=by rw[h];simp[Tr.flat]
  rw[zC hN t o out stk _ h' hs ho]
  obtain ⟨h1,h2⟩:=iB h'
  rw[t.bT] at h1
  have h2:N[o+t.sz]=node 3 [] [] 1:=by simp only[t.bT] at h2;exact h2
  rw[aG (wW hN h1 h2 (by simp) (by have:=t.rC;simp;omega) (by simp[t.cI];omega))]
  have e1:(stk++[[C.i (o+t.sz-1:Nat)]]).length-1=stk.length:=by simp
  rw[e1,List.drop_left',List.take_left']<;>simp[Tr.sz,Tr.kids]
  rfl
 |.bn kd a b,o,out,stk,r,h,hs,ho=>by
  have h':N.drop o=a.flat++(b.flat++(node kd [] [] 2::r)):=by rw[h];simp[Tr.flat]
  have h'':N.drop (o+a.sz)=b.flat++(node kd [] [] 2::r):=by rw[←List.drop_drop,h',←a.bT];simp
  have ha:=a.rC
  have hb:=b.rC
  rw[zC hN a o out stk _ h' hs ho,zC hN b (o+a.sz) _ _ _ h'' (by simp;omega) (by simp[a.cI];omega)]
  obtain ⟨h1,h2⟩:=iB h''
  rw[b.bT] at h1
  have h2:N[o+a.sz+b.sz]=node kd [] [] 2:=by simp only[b.bT] at h2;exact h2
  rw[aG (wW hN h1 h2 (by simp) (by simp;omega) (by simp[a.cI,b.cI];omega))]
  have e1:(stk++[[C.i (o+a.sz-1:Nat)]]++[[C.i (o+a.sz+b.sz-1:Nat)]]).length-2=stk.length:=by simp
  have e2:stk++[[C.i (o+a.sz-1:Nat)]]++[[C.i (o+a.sz+b.sz-1:Nat)]]=stk++[[C.i (o+a.sz-1:Nat)],[C.i (o+a.sz+b.sz-1:Nat)]]:=by simp
  rw[e1,e2,List.drop_left',List.take_left']
  ·have e3:o+(Tr.bn kd a b).sz=o+a.sz+b.sz+1:=by simp only[Tr.sz];omega
   rw[e3]
   simp[Tr.kids]
  ·rfl
  ·rfl
theorem iL (t:Tr) (ht:t.sz≤1048576):dP [.l t.flat]=some [.b true,.l (t.kids 0)]:=by
 have hN:t.flat.length≤1048576:=by rw[t.bT];exact ht
 have h:=zC hN t 0 [] [] [] (by simp) (by simp) (by simp)
 have he:ap4 dP.d1 [.i (0+t.sz:Nat),.l t.flat,.l ([]++t.kids 0),.l ([]++[[.i (0+t.sz-1:Nat)]])]=some (.brk 0 [.l (t.kids 0),.l [[.i (t.sz-1:Nat)]]]):=by
  simp[dP.d1,t.bT]
 rw[aQ he] at h
 simp only[dP,dP.d3,apL,jC,ao]
 erw[h]
 simp[dP.d2]
end Go.Ev
namespace Go.Ev
section
variable {K:List (List C)} (hK:K.length≤1048576)
include hK
theorem th (G:List C→Option (List C)) {ix:Nat} (hi:ix<K.length) {l:List (List C)} (hr:K[ix]=[.l l]) {d c e:Nat} (hd:d<l.length) (hl:l.length≤2) {kid:Nat} (hk:l[d]=[.i (kid:Nat)])
  (hG:G [.l K,.i (kid:Nat)]=some [.i (e:Nat)]) (he:e<big):
  ap4 (bm.d1 G) [.l K,.i (ix:Nat),.i (c:Nat),.i (d:Nat)]=some (.again [.l K,.i (ix:Nat),.i (max c (e+1):Nat),.i (d+1:Nat)]):=by
 have hg:K.getD ix []=[.l l]:=by rw[List.getD_eq_getElem?_getD,List.getElem?_eq_getElem hi,hr];rfl
 have hgd:l.getD d []=[.i (kid:Nat)]:=by rw[List.getD_eq_getElem?_getD,List.getElem?_eq_getElem hd,hk];rfl
 have hw:=sW he
 have hwd:w64 ((d:Int)+1)=((d+1:Nat):Int):=sW (by simp only[big];omega)
 simp only[apL,jC,jD,bm.d1,C.I_i,C.L_l,jY,hg,hgd,hG,ad,jI,hw,hwd,jX,decide_true,jR]
 have e1:((ix:Int)<(K.length:Int)):=by omega
 have e2:((d:Int)<(l.length:Int)):=by omega
 simp only[e1,e2,decide_true,jR]
 by_cases h:((e+1:Nat):Int)>(c:Int)
 ·have:max c (e+1)=e+1:=by omega
  simp only[h,decide_true,jR,this]
 ·have:max c (e+1)=c:=by omega
  simp only[h,decide_false,jS,this]
theorem wm (G:List C→Option (List C)) {ix:Nat} (hi:ix<K.length) {l:List (List C)} (hr:K[ix]=[.l l]) {c:Nat}:
  ap4 (bm.d1 G) [.l K,.i (ix:Nat),.i (c:Nat),.i (l.length:Nat)]=some (.brk 0 [.i (c:Nat)]):=by
 have hg:K.getD ix []=[.l l]:=by rw[List.getD_eq_getElem?_getD,List.getElem?_eq_getElem hi,hr];rfl
 simp only[apL,jC,jD,bm.d1,C.I_i,C.L_l,jY,hg]
 simp[hi]
theorem w7:∀(k:Nat) (t:Tr) (o:Nat) (r:List (List C)),t.depth<k→t.depth<big→K.drop o=t.kids o++r→bm.g k 0 [.l K,.i (o+t.sz-1:Nat)]=some [.i (t.depth:Nat)]
 |0,t,o,r,h,_,_=>by omega
 |k+1,t,o,r,h,hb,hd=>by
  have hs:∀x,bm.g (k+1) 0 x=bm.step (bm.g k 0) x:=fun _=>rfl
  rw[hs]
  simp only[bm.step,bm.d3,apL,jC,jD]
  cases t with
  |lf kd n v=>
   obtain ⟨h1,h2,_⟩:=drop_cons (show K.drop o=[.l []]::r from hd)
   have:=aQ (wm hK (bm.g k 0) h1 h2 (c:=0))
   simp only[List.length_nil,Int.ofNat_zero,Int.natCast_zero] at this
   have e:o+(Tr.lf kd n v).sz-1=o:=by simp[Tr.sz]
   rw[e,this]
   simp[bm.d2,Tr.depth]
  |un t=>
   simp only[Tr.depth] at h hb
   have h':K.drop o=t.kids o++([.l [[.i (o+t.sz-1:Nat)]]]::r):=by rw[hd];simp[Tr.kids]
   have ih:=w7 k t o _ (by omega) (by omega) h'
   obtain ⟨h1,h2⟩:=iB h'
   rw[t.cI] at h1
   have h2:K[o+t.sz]=[.l [[.i (o+t.sz-1:Nat)]]]:=by simp only[t.cI] at h2;exact h2
   have e:o+(Tr.un t).sz-1=o+t.sz:=by simp[Tr.sz]
   have s1:=th hK (bm.g k 0) h1 h2 (d:=0) (c:=0) (by simp) (by simp) (kid:=o+t.sz-1) rfl ih (by omega)
   have s2:=wm hK (bm.g k 0) h1 h2 (c:=max 0 (t.depth+1))
   simp only[Int.natCast_zero,Nat.zero_max,List.length_cons,List.length_nil,Nat.zero_add] at s1 s2
   rw[e,aG s1,aQ s2]
   simp[bm.d2,Tr.depth]
  |bn kd a b=>
   simp only[Tr.depth] at h hb
   have h':K.drop o=a.kids o++(b.kids (o+a.sz)++([.l [[.i (o+a.sz-1:Nat)],[.i (o+a.sz+b.sz-1:Nat)]]]::r)):=by rw[hd];simp[Tr.kids]
   have h'':K.drop (o+a.sz)=b.kids (o+a.sz)++([.l [[.i (o+a.sz-1:Nat)],[.i (o+a.sz+b.sz-1:Nat)]]]::r):=by
    rw[←List.drop_drop,h',←a.cI o];simp
   have iha:=w7 k a o _ (by omega) (by omega) h'
   have ihb:=w7 k b (o+a.sz) _ (by omega) (by omega) h''
   obtain ⟨h1,h2⟩:=iB h''
   rw[b.cI] at h1
   have h2:K[o+a.sz+b.sz]=[.l [[.i (o+a.sz-1:Nat)],[.i (o+a.sz+b.sz-1:Nat)]]]:=by simp only[b.cI] at h2;exact h2
   have e:o+(Tr.bn kd a b).sz-1=o+a.sz+b.sz:=by simp only[Tr.sz];omega
   have s1:=th hK (bm.g k 0) h1 h2 (d:=0) (c:=0) (by simp) (by simp) (kid:=o+a.sz-1) rfl iha (by omega)
   have s2:=th hK (bm.g k 0) h1 h2 (d:=1) (c:=max 0 (a.depth+1)) (by simp) (by simp) (kid:=o+a.sz+b.sz-1) rfl ihb (by omega)
   have s3:=wm hK (bm.g k 0) h1 h2 (c:=max (max 0 (a.depth+1)) (b.depth+1))
   simp only[Int.natCast_zero,List.length_cons,List.length_nil,Nat.zero_add,Nat.reduceAdd] at s1 s2 s3
   rw[e,aG s1,aG s2,aQ s3]
   have e2:max (max 0 (a.depth+1)) (b.depth+1)=max a.depth b.depth+1:=by omega
   rw[e2]
   simp[bm.d2,Tr.depth]
end
inductive OkN:List C→Prop
 |n1 (n:Tok) (h:aS (mkS n)=true):OkN (node 1 n [] 0)
 |n2 (n v:Tok) (h:aS (mkS n)=true) (h2:aS (mkS v)=true):OkN (node 2 n v 0)
 |n3:OkN (node 3 [] [] 1)
 |n4:OkN (node 4 [] [] 2)
 |n5:OkN (node 5 [] [] 2)
theorem Tr.okN:∀(t:Tr),t.Wf→∀r,r∈t.flat→OkN r
 |.lf k n v,h,r,hr=>by
  simp only[Tr.flat,List.mem_singleton] at hr
  subst hr
  rcases h with ⟨h1,⟨rfl,rfl⟩|⟨rfl,h2⟩⟩
  ·exact .n1 n h1
  ·exact .n2 n v h1 h2
 |.un t,h,r,hr=>by
  simp only[Tr.flat,List.mem_append,List.mem_singleton] at hr
  rcases hr with hr|rfl
  ·exact t.okN h r hr
  ·exact .n3
 |.bn k a b,h,r,hr=>by
  simp only[Tr.flat,List.mem_append,List.mem_singleton] at hr
  rcases hr with (hr|hr)|rfl
  ·exact a.okN h.2.1 r hr
  ·exact b.okN h.2.2 r hr
  ·rcases h.1 with rfl|rfl
   ·exact .n4
   ·exact .n5
theorem pR {s:Str} (h:aS s=true):s.size≤1048576:=by
 simp only[aS,within,Bool.and_eq_true,decide_eq_true_eq] at h
 omega
theorem emp:(mkS []).toList=[]:=eH _
theorem ET {N:List (List C)} (hN:N.length≤1048576) {i:Nat} (hi:i<N.length) (ho:OkN N[i]):
  ap2 aI.d4 [.i i,.l N]=some (.again [.i (i+1:Nat),.l N]):=by
 have hw1:=w1 hi (show N.length<big by simp only[big];omega)
 have hg:N.getD i []=N[i]:=by rw[List.getD_eq_getElem?_getD,List.getElem?_eq_getElem hi];rfl
 have e0:((i:Int)<(N.length:Int)):=by omega
 have key:∀r,OkN r→N.getD i []=r→ap2 aI.d4 [.i i,.l N]=some (.again [.i (i+1:Nat),.l N]):=by
  intro r hr hgr
  have z1:within 1 0 5=true:=rfl
  have z2:within 2 0 5=true:=rfl
  have z3:within 3 0 5=true:=rfl
  have z4:within 4 0 5=true:=rfl
  have z5:within 5 0 5=true:=rfl
  have t2:Int.toNat 2=2:=rfl
  have t3:Int.toNat 3=3:=rfl
  have t4:Int.toNat 4=4:=rfl
  have t5:Int.toNat 5=5:=rfl
  cases hr with
  |n1 n h=>
   simp only[apL,jC,jD,aI.d4,C.I_i,C.L_l,jY,hgr,node]
   simp[aI.d3,aI.d2,aI.d1,fb,z1,ad,cA _ (pR h),h,emp,eU,hw1,hi]
  |n2 n v h h2=>
   simp only[apL,jC,jD,aI.d4,C.I_i,C.L_l,jY,hgr,node]
   simp[aI.d3,aI.d2,aI.d1,fb,z2,t2,ad,cA _ (pR h),cA _ (pR h2),h,h2,emp,eU,hw1,hi]
  |n3=>
   simp only[apL,jC,jD,aI.d4,C.I_i,C.L_l,jY,hgr,node]
   simp[aI.d3,aI.d2,aI.d1,fb,z3,t3,ad,emp,eU,hw1,hi]
  |n4=>
   simp only[apL,jC,jD,aI.d4,C.I_i,C.L_l,jY,hgr,node]
   simp[aI.d3,aI.d2,aI.d1,fb,z4,t4,ad,emp,eU,hw1,hi]
  |n5=>
   simp only[apL,jC,jD,aI.d4,C.I_i,C.L_l,jY,hgr,node]
   simp[aI.d3,aI.d2,aI.d1,fb,z5,t5,ad,emp,eU,hw1,hi]
 exact key _ ho hg
theorem uB (t:Tr) (ht:t.sz≤400) (hw:t.Wf):aI [.l t.flat]=some [.b true]:=by
 have hN:t.flat.length≤1048576:=by rw[t.bT];omega
 have hloop:∀(k i:Nat),t.flat.length-i≤k→i≤t.flat.length→lim (ap2 aI.d4) [.i i,.l t.flat]=some (.brk 0 []):=by
  intro k
  induction k with
  |zero=>
   intro i hk hi
   have:i=t.flat.length:=by omega
   subst this
   exact aQ (by simp[aI.d4])
  |succ k ih=>
   intro i hk hi
   rcases Nat.lt_or_ge i t.flat.length with h|h
   ·rw[aG (ET hN h (t.okN hw _ (List.getElem_mem h)))]
    exact ih (i+1) (by omega) (by omega)
   ·have:i=t.flat.length:=by omega
    subst this
    exact aQ (by simp[aI.d4])
 have h0:=hloop _ 0 (Nat.le_refl _) (Nat.zero_le _)
 simp only[Int.natCast_zero] at h0
 have e:¬((t.flat.length:Int)>400):=by rw[t.bT];omega
 simp only[aI,aI.d6,apL,jC,C.L_l,e,decide_false,jS,iL t (by omega),call2,jI,C.B_b,jZ,h0]
 simp[aI.d5]
theorem zW (t:Tr) (ht:t.sz≤400) (hw:t.Wf):fC [.l t.flat]=some [.b (decide (t.depth≤20))]:=by
 have hd:=t.lQ
 have hp:=t.rC
 have hF:=lk
 have hw1:w64 ((t.flat.length:Int)-1)=((0+t.sz-1:Nat):Int):=by rw[t.bT,aP (by omega) (by omega)];omega
 have hn:bm [.l (t.kids 0),.i (0+t.sz-1:Nat)]=some [.i (t.depth:Nat)]:=
  w7 (K:=t.kids 0) (by rw[t.cI];omega) ik t 0 [] (by omega) (by simp only[big];omega) (by simp)
 simp only[fC,fC.d1,apL,jC,jD,uB t ht hw,ad,call2,jI,C.B_b,jZ,jS,iL t (by omega),C.L_l,hw1,hn,C.I_i,jV]
 have:decide ((t.depth:Int)≤20)=decide (t.depth≤20):=by
  rw[decide_eq_decide];omega
 rw[this]
end Go.Ev
namespace Go.Ev
theorem lex_nil:∀l:List UInt8,(dm l=[])↔l.all sp=true
 |[]=>by simp[dm]
 |c::r=>by
  rw[dm.eq_2]
  by_cases h:c=32
  ·subst h
   rw[if_pos rfl,List.all_cons,lex_nil r]
   simp[sp]
  ·rw[if_neg h]
   have:sp c=false:=by simp[sp,h]
   split<;>simp[this]
theorem DS (s0:Str):∀(n:Nat) (l:List UInt8),l.length≤n→n≤1048576→∃q,lim (ap2 aJ.d1) [.s (mkS l),.i 32]=some (.brk 0 [.s (mkS q)])∧q.length≤l.length∧q.all sp=l.all sp
 |n,l,hn,hb=>by
  rcases List.eq_nil_or_concat l with rfl|⟨p,c,rfl⟩
  ·exact ⟨[],aQ (by simp[aJ.d1,nu]),Nat.le_refl _,rfl⟩
  ·simp only[List.concat_eq_append] at hn⊢
   obtain ⟨n,rfl⟩:∃n',n=n'+1:=⟨n-1,by simp at hn;omega⟩
   have hsz:(mkS (p++[c])).size=p.length+1:=by rw[nu];simp
   have hw:w64 (((p.length+1:Nat):Int)-1)=(p.length:Nat):=by simp at hn;rw[aP (by omega) (by omega)];omega
   have hgd:(mkS (p++[c])).data.getD p.length 0=c:=by
    rw[dY (by rw[gF];simp)]
    simp[gF]
   have hext:(mkS (p++[c])).extract 0 p.length=mkS p:=by
    rw[lb,gF];simp
   have e1:((p.length+1:Nat):Int)>0:=by omega
   have e2:(p.length:Int)<((p.length+1:Nat):Int):=by omega
   have e3:(p.length:Int)≤((p.length+1:Nat):Int):=by omega
   cases hc:sp c with
   |true=>
    have h:ap2 aJ.d1 [.s (mkS (p++[c])),.i 32]=some (.again [.s (mkS p),.i 32]):=by
     simp only[sp] at hc
     simp only[apL,jC,jD,aJ.d1,C.S_s,C.I_i,hsz,hw,jY,hgd,bn c 32 32 rfl,hc,hext,e1,e2,e3,decide_true,jR,jX]
    rw[aG h]
    obtain ⟨q,h1,h2,h3⟩:=DS s0 n p (by simp at hn;omega) (by omega)
    exact ⟨q,h1,by simp;omega,by rw[h3];simp[hc]⟩
   |false=>
    refine ⟨p++[c],aQ ?_,Nat.le_refl _,rfl⟩
    simp only[sp] at hc
    simp only[apL,jC,jD,aJ.d1,C.S_s,C.I_i,hsz,hw,jY,hgd,bn c 32 32 rfl,hc,e1,e2,decide_true,jR,jS,jX]
theorem Db:∀(l:List UInt8),l.length≤1048576→lim (ap2 aM.d1) [.s (mkS l),.i 32]=some (.brk 0 [.s (mkS (l.dropWhile sp))])
 |[],hn=>aQ (by simp[aM.d1,nu])
 |c::r,hn=>by
  have hsz:(mkS (c::r)).size=r.length+1:=rfl
  have hgd:(mkS (c::r)).data.getD 0 0=c:=by
   rw[dY (by rw[gF];simp)]
   simp[gF]
  have hext:(mkS (c::r)).extract 1 (r.length+1)=mkS r:=by
   rw[lb,gF];simp
  have e1:((r.length+1:Nat):Int)>0:=by omega
  have e2:(1:Int)≤((r.length+1:Nat):Int):=by omega
  rw[List.dropWhile_cons]
  cases hc:sp c with
  |true=>
   have h:ap2 aM.d1 [.s (mkS (c::r)),.i 32]=some (.again [.s (mkS r),.i 32]):=by
    simp only[sp] at hc
    have e1':(0:Int)<((r.length+1:Nat):Int):=by omega
    simp only[apL,jC,jD,aM.d1,C.S_s,C.I_i,hsz,jY,hgd,bn c 32 32 rfl,hc,hext,e1,e1',e2,decide_true,jR,Int.le_refl]
   rw[aG h]
   simp only[List.length_cons] at hn
   simpa using Db r (by omega)
  |false=>
   refine aQ ?_
   simp only[sp] at hc
   have e1':(0:Int)<((r.length+1:Nat):Int):=by omega
   simp only[apL,jC,jD,aM.d1,C.S_s,C.I_i,hsz,jY,hgd,bn c 32 32 rfl,hc,e1,e1',decide_true,jR,jS]
   rfl
theorem qG (l:List UInt8):l.dropWhile sp=[]↔l.all sp=true:=by
 induction l with
 |nil=>simp
 |cons c r ih=>
  rw[List.dropWhile_cons,List.all_cons]
  cases hc:sp c<;>simp[ih]
theorem I1 (s:Str) (hl:s.size≤1048576):∃z,eW [.s s,.s (bs #[32])]=some [.s z]∧(z.toList==(bs #[]).toList)=s.data.toList.all sp:=by
 have hb32:bs #[32]=mkS [32]:=rfl
 simp only[eW,eW.d2,apL,jC,jD,C.S_s]
 cases hq:(s.toList==(bs #[]).toList) with
 |true=>
  have:s=mkS []:=(bV s (bs #[])).1 hq
  subst this
  refine ⟨mkS [],?_,?_⟩
  ·simp
  ·rw[hq];rfl
 |false=>
  have h32:((bs #[32]).toList==(bs #[]).toList)=false:=by
   rw[hb32,eH,eU,eH];rfl
  have hsz:(bs #[32]).size=1:=rfl
  have hgd:(bs #[32]).data.getD 0 0=32:=rfl
  obtain ⟨q,h1,h2,h3⟩:=DS s s.data.toList.length s.data.toList (Nat.le_refl _) (by rw[←da];exact hl)
  rw[IB] at h1
  have h4:=Db q (by rw[←da] at h2;omega)
  refine ⟨mkS (q.dropWhile sp),?_,?_⟩
  ·have e1:(((32:UInt8).toNat:Nat):Int)=32:=rfl
   have e2:((1:Nat):Int)=1:=rfl
   simp only[ja,jR,h32,jS,hsz,hgd,e1,e2,aJ,aJ.d3,aM,aM.d3,apL,jC,jD,h1,aC,aJ.d2,jV,ad,jI]
   simp[h4,aM.d2]
  ·rw[←h3,eH,eU,eH,gF,gF]
   cases hall:q.all sp with
   |true=>rw[(qG q).2 hall];rfl
   |false=>
    cases hd:q.dropWhile sp with
    |nil=>rw[(qG q).1 hd] at hall;simp at hall
    |cons c r=>rfl
inductive PR where
 |err (n:Nat)
 |all
 |tree (t:Tr)
def pp (s:Str):PR:=
 if 200<s.size then .err 1
 else if s.data.toList.all sp=true then .all
 else match prs 1000 0 (dm s.data.toList) with
  |some (t,[])=>if t.depth≤20 then .tree t else .err 3
  |_=>.err 2
def PR.nodes:PR→List (List C)
 |.err _=>[]
 |.all=>[node 0 [] [] 0]
 |.tree t=>t.flat
def PR.code:PR→Nat
 |.err n=>n
 |_=>0
def PR.ptr:PR→C
 |.err _=>.nil
 |.all=>.p [.i 0,.s (mkS []),.s (mkS []),.l []]
 |.tree t=>t.enc
theorem Hd {s:Str} {t:Tr} (h:pp s=.tree t):t.Wf∧t.sz≤200∧t.depth≤20:=by
 unfold pp at h
 split at h
 ·simp at h
 ·rename_i hs
  split at h
  ·simp at h
  ·split at h
   ·rename_i u hq
    split at h
    ·rename_i hd
     simp only[PR.tree.injEq] at h
     subst h
     obtain ⟨p,h1,h2,h3,h4⟩:=mC _ _ _ _ _ hq
     have:=(p8 _ s.data.toList (Nat.le_refl _)).1
     rw[h1] at this
     rw[←da] at this
     simp at this
     exact ⟨h4,by omega,hd⟩
    ·simp at h
   ·simp at h
theorem oO (s:Str) (hl:s.size≤1048576):fN [.s s]=some [.l (pp s).nodes,.i ((pp s).code:Nat)]:=by
 have hF:=lk
 simp only[fN,fN.d1,apL,jC,C.S_s]
 by_cases hs:(s.size:Int)>200
 ·have h200:200<s.size:=by omega
  simp[hs,pp,h200,PR.nodes,PR.code]
 have h200:¬200<s.size:=by omega
 simp only[hs,decide_false,jS]
 have hlen:=p8 _ s.data.toList (Nat.le_refl _)
 rw[←da] at hlen
 rcases xO s hl with ⟨hg,ht⟩|⟨hg,o,ht⟩
 ·simp only[ht,call2,jI,jC,jD,C.B_b,jZ,jS,C.L_l,jW]
  cases hall:s.data.toList.all sp with
  |true=>
   have:dm s.data.toList=[]:=(lex_nil _).2 hall
   rw[this]
   simp[pp,h200,hall,PR.nodes,PR.code,node,eU]
  |false=>
   have hne:dm s.data.toList≠[]:=fun h=>by rw[(lex_nil _).1 h] at hall;simp at hall
   have hlp:0<(dm s.data.toList).length:=List.length_pos_iff.2 hne
   have hz:(((dm s.data.toList).length:Int)==0)=false:=by rw[beq_eq_false_iff_ne];omega
   obtain ⟨nodes,a',bad,hgo,q1,q2,q3,q4⟩:=Ii (T:=dm s.data.toList) (by omega) (fun t ht=>by have:=hlen.2 t ht;omega) 1000 0 ik 0 (by omega) (by omega) (by omega) (by omega)
   have hgo:aj [.l ((dm s.data.toList).map tk),.i 0,.b false]=_:=hgo
   simp only[hz,jS,hgo,call4,jI,jC,jD,C.B_b,C.I_i]
   simp only[List.drop_zero] at q4
   simp only[pp,if_neg h200,hall,Bool.false_eq_true,if_false]
   cases hp:prs 1000 0 (dm s.data.toList) with
   |none=>
    rw[hp] at q4
    simp only at q4
    subst q4
    simp[PR.nodes,PR.code]
   |some z=>
    obtain ⟨t,r⟩:=z
    rw[hp] at q4
    obtain ⟨rfl,rfl,q5,q6⟩:=q4
    simp only[ja,jR]
    have hrl:r.length=(dm s.data.toList).length-a':=by rw[←q5];simp
    cases r with
    |cons x r=>
     simp only[List.length_cons] at hrl
     have:(a':Int)<((dm s.data.toList).length:Int):=by omega
     simp[this,PR.nodes,PR.code]
    |nil=>
     simp only[List.length_nil] at hrl
     have:¬(a':Int)<((dm s.data.toList).length:Int):=by omega
     obtain ⟨p,h1,h2,h3,h4⟩:=mC _ _ _ _ _ hp
     have h5:t.sz≤400:=by
      have:=hlen.1
      rw[h1] at this
      simp at this
      omega
     simp only[this,decide_false,jS,zW t h5 h4,ad,jI,jC,C.B_b]
     by_cases hd:t.depth≤20<;>simp[hd,PR.nodes,PR.code]
 ·simp only[ht,call2,jI,jC,jD,C.B_b,ja,jR,jV,ao]
  have hcode:pp s=.err 2:=by
   unfold pp
   rw[if_neg h200,if_neg]
   ·split
    ·rename_i t hq
     obtain ⟨p,h1,h2,h3,h4⟩:=mC _ _ _ _ _ hq
     have:=qk _ s.data.toList (Nat.le_refl _) (fun x hx=>h2 x (by rw[h1] at hx;simpa using hx))
     rw[this] at hg;simp at hg
    ·rfl
   ·intro hall
    have:s.data.toList.all gN=true:=by
     rw[List.all_eq_true] at hall⊢
     intro x hx
     have:=hall x hx
     simp only[sp] at this
     simp[gN,this]
    rw[this] at hg;simp at hg
  rw[hcode]
  rfl
theorem o6 (s:Str) (hl:s.size≤1048576):jb [.s s]=some [(pp s).ptr,.i ((pp s).code:Nat)]:=by
 have hF:=lk
 simp only[jb,jb.d1,apL,jC,C.S_s]
 by_cases hs:(s.size:Int)>200
 ·have h200:200<s.size:=by omega
  simp[hs,pp,h200,PR.ptr,PR.code]
 have h200:¬200<s.size:=by omega
 have hlen:=p8 _ s.data.toList (Nat.le_refl _)
 rw[←da] at hlen
 obtain ⟨z,hz,hz2⟩:=I1 s hl
 simp only[hs,decide_false,jS,hz,ad,jI,jC,C.S_s,hz2]
 cases hall:s.data.toList.all sp with
 |true=>simp[pp,h200,hall,PR.ptr,PR.code,eU]
 |false=>
  obtain ⟨c,i',ok,hgo,q1,q2⟩:=Il (s:=s) hl 1000 0 ik 0 (by omega) (by omega) (by simp only[List.drop_zero];omega) (by omega)
  have hgo:ar [.s s,.i 0,.b true]=_:=hgo
  simp only[List.drop_zero] at q2
  simp only[jS,hgo,call4,jI,jC,jD,Fe hl i' ok q1,call3,C.B_b,C.I_i]
  simp only[pp,if_neg h200,hall,Bool.false_eq_true,if_false]
  cases hp:prs 1000 0 (dm s.data.toList) with
  |none=>
   rw[hp] at q2
   simp only at q2
   subst q2
   simp[PR.ptr,PR.code]
  |some y=>
   obtain ⟨t,r⟩:=y
   rw[hp] at q2
   obtain ⟨rfl,rfl,q3,q4⟩:=q2
   have hgd:=zj (s:=s) i'
   have hlt:=sq (s.data.toList.drop i')
   rw[q3,←hgd] at hlt
   simp only[jZ,ja,jR,jS]
   cases r with
   |cons x r=>
    have:(gp s i':Int)<(s.size:Int):=by
     rcases Nat.lt_or_ge (gp s i') s.size with h|h
     ·omega
     ·rw[da] at h
      rw[List.drop_eq_nil_of_le h] at hlt
      simp[dm] at hlt
    simp[this,PR.ptr,PR.code]
   |nil=>
    have:¬(gp s i':Int)<(s.size:Int):=by
     intro h
     have h:gp s i'<s.data.toList.length:=by rw[←da];omega
     have h1:=(lex_nil _).1 hlt
     rw[hgd] at h1
     have h2:((s.data.toList.drop i').dropWhile sp).length=s.data.toList.length-gp s i':=by rw[←hgd];simp
     cases hq:(s.data.toList.drop i').dropWhile sp with
     |nil=>rw[hq] at h2;simp at h2;omega
     |cons x r=>
      have:=xf hq
      rw[hq] at h1
      simp[sp] at h1
      exact this h1.1
    obtain ⟨p,h1,h2,h3,h4⟩:=mC _ _ _ _ _ hp
    have h5:t.sz≤400:=by
     have:=hlen.1
     rw[h1] at this
     simp at this
     omega
    have hdl:=t.lQ
    have hdep:au [t.enc]=some [.i (t.depth:Nat)]:=vA ik t (by omega) (by simp only[big];omega)
    simp only[this,decide_false,jS,hdep,ad,jI,jC,C.I_i]
    by_cases hd:t.depth≤20
    ·have hd':¬(t.depth:Int)>20:=by omega
     simp only[hd',decide_false,jS,jV]
     simp[hd,PR.ptr,PR.code]
    ·have hd':(t.depth:Int)>20:=by omega
     simp only[hd',decide_true,jR,jV]
     simp[hd,PR.ptr,PR.code]
end Go.Ev
namespace Go.Ev
def eA {α:Type} (p:α→Bool):List α→Nat→Int
 |[],_=>-1
 |x::r,n=>bif p x then n else eA p r (n+1)
def aK (p:Nat→Bool):Nat→Nat→Bool
 |_,0=>true
 |i,k+1=>p i&&aK p (i+1) k
theorem dx (p:Nat→Bool):∀(k i:Nat),aK p i k=true↔∀j,i≤j→j<i+k→p j=true
 |0,i=>by simp[aK];omega
 |k+1,i=>by
  simp only[aK,Bool.and_eq_true,dx p k (i+1)]
  constructor
  ·rintro ⟨h1,h2⟩ j hj hk
   rcases Nat.lt_or_eq_of_le hj with h|rfl
   ·exact h2 j h (by omega)
   ·exact h1
  ·intro h
   exact ⟨h i (Nat.le_refl _) (by omega),fun j h1 h2=>h j (by omega) (by omega)⟩
theorem eO {body:List C→R} {S:Nat→List C} {p:Nat→Bool} {n b:Nat} {ys r:List C} (hs:∀i,i<n→body (S i)=bif p i then some (.again (S (i+1))) else some (.ret r)) (he:body (S n)=some (.brk b ys)):
  ∀k i,k+i=n→lim body (S i)=bif aK p i k then some (.brk b ys) else some (.ret r)
 |0,i,h=>by
  have:i=n:=by omega
  subst this
  rw[aQ he];rfl
 |k+1,i,h=>by
  have h1:=hs i (by omega)
  simp only[aK]
  cases hp:p i with
  |true=>
   rw[hp] at h1
   rw[aG h1,eO hs he k (i+1) (by omega)]
   simp
  |false=>
   rw[hp] at h1
   rw[ml h1]
   simp
theorem cD {body:List C→R} {S:Nat→List C} {n b:Nat} {ys:List C} (hs:∀i,i<n→body (S i)=some (.again (S (i+1)))) (he:body (S n)=some (.brk b ys)):
  ∀k i,k+i=n→lim body (S i)=some (.brk b ys)
 |0,i,h=>by
  have:i=n:=by omega
  subst this
  exact aQ he
 |k+1,i,h=>by rw[aG (hs i (by omega))];exact cD hs he k (i+1) (by omega)
theorem lq {α:Type} {l:List α} {body:List C→R} {S:Nat→List C} {p:α→Bool} {b:Nat} (hs:∀i (h:i<l.length),body (S i)=bif p l[i] then some (.ret [.i (i:Nat)]) else some (.again (S (i+1)))) (he:body (S l.length)=some (.brk b [])):
  ∀k i,k+i=l.length→ai b (lim body (S i)) (fun _=>some (.ret [.i (-1)]))=some (.ret [.i (eA p (l.drop i) i)])
 |0,i,h=>by
  have:i=l.length:=by omega
  subst this
  rw[aQ he];simp[eA]
 |k+1,i,h=>by
  have hi:i<l.length:=by omega
  have h1:=hs i hi
  rw[List.drop_eq_getElem_cons hi]
  simp only[eA]
  cases hp:p l[i] with
  |true=>rw[hp] at h1;rw[ml h1];simp
  |false=>rw[hp] at h1;rw[aG h1,lq hs he k (i+1) (by omega)];simp
def bIx (f:Fl) (nm:Str):Int:=eA (fun x:Bt=>sEq x.name nm) f.bts 0
def sIx (f:Fl) (nm:Str):Int:=eA (fun x:Sv=>sEq x.name nm) f.svs 0
def cIx (f:Fl) (nm:Str):Int:=eA (fun x:Cp=>sEq x.name nm) f.cps 0
theorem vN (f:Fl) (nm:Str) (hl:f.svs.length≤1048576):cX (f.e++[.s nm])=some [.i (sIx f nm)]:=by
 have h:=lq (l:=f.svs) (body:=ap6 cX.d1) (S:=fun i=>[.s nm,.i (i:Nat),.b f.pack,.l (f.bts.map Bt.e),.l (f.svs.map Sv.e),.l (f.cps.map Cp.e)]) (p:=fun x=>sEq x.name nm) (b:=0)
  (fun i hi=>by
   simp only[apL,jC,jD,cX.d1,C.I_i,C.L_l,C.S_s,jW,jY,getD_map' Sv.e hi,w1 hi (show f.svs.length<big by simp only[big];omega)]
   simp only[Sv.e,jC,C.S_s]
   cases hs:sEq f.svs[i].name nm<;>simp only[sEq] at hs<;>simp[hs,hi])
  (by simp[cX.d1]) f.svs.length 0 rfl
 simp only[cX,cX.d3,Fl.e,jA,jB,apL,jC,jD]
 rw[show (fun xs:List C=>cX.d2)=fun _=>some (.ret [.i (-1)]) from rfl]
 erw[h]
 rfl
theorem k9 (f:Fl) (nm:Str) (hl:f.bts.length≤1048576):dh (f.e++[.s nm])=some [.i (bIx f nm)]:=by
 have h:=lq (l:=f.bts) (body:=ap6 dh.d1) (S:=fun i=>[.s nm,.i (i:Nat),.b f.pack,.l (f.bts.map Bt.e),.l (f.svs.map Sv.e),.l (f.cps.map Cp.e)]) (p:=fun x=>sEq x.name nm) (b:=0)
  (fun i hi=>by
   simp only[apL,jC,jD,dh.d1,C.I_i,C.L_l,C.S_s,jW,jY,getD_map' Bt.e hi,w1 hi (show f.bts.length<big by simp only[big];omega)]
   simp only[Bt.e,jC,C.S_s]
   cases hs:sEq f.bts[i].name nm<;>simp only[sEq] at hs<;>simp[hs,hi])
  (by simp[dh.d1]) f.bts.length 0 rfl
 simp only[dh,dh.d3,Fl.e,jA,jB,apL,jC,jD]
 rw[show (fun xs:List C=>dh.d2)=fun _=>some (.ret [.i (-1)]) from rfl]
 erw[h]
 rfl
theorem pS (f:Fl) (nm:Str) (hl:f.cps.length≤1048576):ew (f.e++[.s nm])=some [.i (cIx f nm)]:=by
 have h:=lq (l:=f.cps) (body:=ap6 ew.d1) (S:=fun i=>[.s nm,.i (i:Nat),.b f.pack,.l (f.bts.map Bt.e),.l (f.svs.map Sv.e),.l (f.cps.map Cp.e)]) (p:=fun x=>sEq x.name nm) (b:=0)
  (fun i hi=>by
   simp only[apL,jC,jD,ew.d1,C.I_i,C.L_l,C.S_s,jW,jY,getD_map' Cp.e hi,w1 hi (show f.cps.length<big by simp only[big];omega)]
   simp only[Cp.e,jC,C.S_s]
   cases hs:sEq f.cps[i].name nm<;>simp only[sEq] at hs<;>simp[hs,hi])
  (by simp[ew.d1]) f.cps.length 0 rfl
 simp only[ew,ew.d3,Fl.e,jA,jB,apL,jC,jD]
 rw[show (fun xs:List C=>ew.d2)=fun _=>some (.ret [.i (-1)]) from rfl]
 erw[h]
 rfl
theorem mE (f:Fl) (nm:Str) (hl:f.bts.length≤1048576):fP (f.e++[.s nm])=some [.i (bIx f nm)]:=by
 have h:=lq (l:=f.bts) (body:=ap4 aB.d1) (S:=fun i=>[.l (f.bts.map Bt.e),.p [.s nm],.i (f.bts.length:Nat),.i (i:Nat)]) (p:=fun x=>sEq x.name nm) (b:=0)
  (fun i hi=>by
   simp only[apL,jC,jD,aB.d1,C.I_i,C.L_l,C.S_s,jW,jY,getD_map' Bt.e hi,w1 hi (show f.bts.length<big by simp only[big];omega)]
   simp only[Bt.e,jC,jD,ie,ie.d1,apL,C.S_s,C.ui,C.P_p,jR,jV,ad,jI,C.B_b]
   cases hs:sEq f.bts[i].name nm<;>simp only[sEq] at hs<;>simp[hs,hi])
  (by simp[aB.d1]) f.bts.length 0 rfl
 simp only[fP,fP.d1,aB,aB.d3,Fl.e,jA,jB,apL,jC,jD,C.L_l,jW]
 rw[show (fun xs:List C=>aB.d2)=fun _=>some (.ret [.i (-1)]) from rfl]
 erw[h]
 rfl
theorem zP (f:Fl) (nm:Str) (hl:f.cps.length≤1048576):jT (f.e++[.s nm])=some [.i (cIx f nm)]:=by
 have h:=lq (l:=f.cps) (body:=ap4 aD.d1) (S:=fun i=>[.l (f.cps.map Cp.e),.p [.s nm],.i (f.cps.length:Nat),.i (i:Nat)]) (p:=fun x=>sEq x.name nm) (b:=0)
  (fun i hi=>by
   simp only[apL,jC,jD,aD.d1,C.I_i,C.L_l,C.S_s,jW,jY,getD_map' Cp.e hi,w1 hi (show f.cps.length<big by simp only[big];omega)]
   simp only[Cp.e,jC,jD,iU,iU.d1,apL,C.S_s,C.ui,C.P_p,jR,jV,ad,jI,C.B_b]
   cases hs:sEq f.cps[i].name nm<;>simp only[sEq] at hs<;>simp[hs,hi])
  (by simp[aD.d1]) f.cps.length 0 rfl
 simp only[jT,jT.d1,aD,aD.d3,Fl.e,jA,jB,apL,jC,jD,C.L_l,jW]
 rw[show (fun xs:List C=>aD.d2)=fun _=>some (.ret [.i (-1)]) from rfl]
 erw[h]
 rfl
def fS (s:Str):Str:=mkS (s.data.toList.takeWhile (· !=61))
def gR (s:Str):Str:=mkS (s.data.toList.dropWhile (· !=61)).tail
def qy (s:Str):Bool:=aS (fS s)&&((s.data.toList.dropWhile (· !=61)).isEmpty||aS (gR s))
theorem qi {s:Str} {l:List UInt8} (hl:s.size≤1048576) (h:l.length≤s.data.toList.length):(mkS l).size≤1048576:=by
 rw[nu];rw[da] at hl;omega
theorem px (s:Str) (hl:s.size≤1048576):dQ [.s s]=some [.s (fS s),.s (gR s),.b (qy s)]:=by
 have key:∀(k i:Nat),s.data.toList.length-i≤k→i≤s.data.toList.length→(s.data.toList.takeWhile (· !=61)).length=i+((s.data.toList.drop i).takeWhile (· !=61)).length→
   ai 0 (lim (ap2 dQ.d1) [.s s,.i i]) (ap1 dQ.d2)=some (.ret [.s (fS s),.s (gR s),.b (qy s)]):=by
  intro k
  induction k with
  |zero=>
   intro i hk hi hr
   have e:i=s.data.toList.length:=by omega
   have hd:s.data.toList.drop i=[]:=List.drop_eq_nil_of_le (by omega)
   rw[hd] at hr
   simp only[List.takeWhile_nil,List.length_nil,Nat.add_zero] at hr
   have hdw:s.data.toList.dropWhile (· !=61)=[]:=by rw[←j8,hr];exact List.drop_eq_nil_of_le (by omega)
   have htw:s.data.toList.takeWhile (· !=61)=s.data.toList:=by
    have:=List.takeWhile_append_dropWhile (p:=fun x:UInt8=>x !=61) (l:=s.data.toList)
    rw[hdw,List.append_nil] at this;exact this
   rw[aQ (i:=0) (ys:=[.s s]) (by rw[e,←da];simp[dQ.d1])]
   have h1:fS s=s:=by unfold fS;rw[htw];rfl
   have h2:gR s=mkS []:=by unfold gR;rw[hdw];rfl
   simp[dQ.d2,cA s hl,ad,qy,h1,h2,hdw,eU]
  |succ k ih=>
   intro i hk hi hr
   rcases Nat.lt_or_ge i s.data.toList.length with hlt|hge
   ·have his:i<s.size:=by rw[da];exact hlt
    have hw:=w1 his (show s.size<big by simp only[big];omega)
    have hd:=List.drop_eq_getElem_cons hlt
    rw[hd,List.takeWhile_cons] at hr
    by_cases hc:s.data.toList[i]=61
    ·have hb:(s.data.toList[i] !=61)=false:=by rw[hc];rfl
     rw[hb] at hr
     simp only[Bool.false_eq_true,if_false,List.length_nil,Nat.add_zero] at hr
     have h1:s.extract 0 i=fS s:=by
      rw[lb,List.drop_zero];unfold fS;rw[←hr,pw]
     have h2:s.extract (i+1) s.size=gR s:=by
      rw[lb,da,List.take_length];unfold gR
      rw[←j8,hr,List.tail_drop]
     have hn1:(fS s).size≤1048576:=qi hl (qg _ _)
     have hn2:(gR s).size≤1048576:=qi hl (by
      have:=(List.dropWhile_suffix (l:=s.data.toList) (· !=61)).length_le
      rw[List.length_tail];omega)
     have hdw:(s.data.toList.dropWhile (· !=61)).isEmpty=false:=by
      rw[←j8,hr,hd];rfl
     have e1:(i:Int)≤(s.size:Int):=by omega
     have e2:((i+1:Nat):Int)≤(s.size:Int):=by omega
     have hbn:=bn s.data.toList[i] 61 61 rfl
     have hbt:(s.data.toList[i]==61)=true:=by rw[hc];rfl
     have h:ap2 dQ.d1 [.s s,.i i]=some (.ret [.s (fS s),.s (gR s),.b (qy s)]):=by
      simp only[apL,jC,jD,dQ.d1,C.I_i,C.S_s,jY,dY hlt,hw,hbn,hbt,h1,h2,cA _ hn1,cA _ hn2,ad,jI,C.B_b,e1,e2,decide_true,jR,jX,Int.le_refl,qy,hdw,Bool.false_or]
      cases aS (fS s)<;>simp[his]
     rw[ml h];simp
    ·have hb:(s.data.toList[i] !=61)=true:=by rw[bne_iff_ne];exact hc
     rw[hb] at hr
     simp only[if_true,List.length_cons] at hr
     have hbn:=bn s.data.toList[i] 61 61 rfl
     have hbf:(s.data.toList[i]==61)=false:=by rw[beq_eq_false_iff_ne];exact hc
     have h:ap2 dQ.d1 [.s s,.i i]=some (.again [.s s,.i (i+1:Nat)]):=by
      simp only[apL,jC,jD,dQ.d1,C.I_i,C.S_s,jY,dY hlt,hw,hbn,hbf]
      simp[his]
     rw[aG h]
     exact ih (i+1) (by omega) (by omega) (by omega)
   ·exact ih i (by omega) hi hr
 have:=key _ 0 (Nat.le_refl _) (Nat.zero_le _) (by simp)
 simp only[dQ,dQ.d3,apL,jC]
 erw[this]
 rfl
theorem sH:∀l:List UInt8,Lib.indexByte l 61=if (l.dropWhile (· !=61)).isEmpty then-1 else ((l.takeWhile (· !=61)).length:Int)
 |[]=>rfl
 |c::r=>by
  simp only[Lib.indexByte,sH r,List.dropWhile_cons,List.takeWhile_cons]
  by_cases hc:c=61
  ·subst hc;simp
  ·have hb:(c !=61)=true:=by simp[hc]
   have hb2:(c==61)=false:=by simp[hc]
   rw[hb,hb2]
   simp only[if_true,Bool.false_eq_true,if_false]
   cases (r.dropWhile (· !=61)).isEmpty with
   |true=>simp
   |false=>
    have:¬((((r.takeWhile (· !=61)).length:Int)==-1)=true):=by rw[beq_iff_eq];omega
    simp only[Bool.false_eq_true,if_false,if_neg this,List.length_cons]
    omega
theorem vL (s:Str) (hl:s.size≤1048576):mi [.s s]=some [.s (fS s),.s (gR s),.b (qy s)]:=by
 have e1:(bs #[61]).size=1:=rfl
 have e2:(bs #[61]).data.getD 0 0=61:=rfl
 have hix:aR [.s s,.s (bs #[61])]=some [.i (Lib.indexByte s.data.toList 61)]:=by
  have e3:Nat.toUInt8 (((61:UInt8).toNat:Nat):Int).toNat=61:=rfl
  have e5:((((1:Nat):Int)==0))=false:=rfl
  have e6:((((1:Nat):Int)==1))=true:=rfl
  have e7:(0:Int)<((1:Nat):Int):=by omega
  simp only[aR,aR.d2,apL,jC,jD,C.S_s,e1,e5,ja,jR,jJ]
  cases hq:((bs #[61]).toList==s.toList) with
  |true=>
   have:bs #[61]=s:=(bV (bs #[61]) s).1 hq
   subst this
   simp[aR.d1]
   decide
  |false=>
   simp only[aR.d1,C.B_b,C.I_i,C.S_s,jS,jR,e1,e6,e7,decide_true,e2,eG,ibF,jC,jD,e3,ad,jI,jV]
 rw[sH] at hix
 have hn1:(fS s).size≤1048576:=qi hl (qg _ _)
 have hn2:(gR s).size≤1048576:=qi hl (by
  have:=(List.dropWhile_suffix (l:=s.data.toList) (· !=61)).length_le
  rw[List.length_tail];omega)
 simp only[mi,mi.d1,iM,iM.d1,cW,cW.d1,apL,jC,jD,hix,ad,jI,C.I_i,C.S_s,e1]
 cases he:(s.data.toList.dropWhile (· !=61)).isEmpty with
 |true=>
  have hdw:s.data.toList.dropWhile (· !=61)=[]:=by simpa using he
  have htw:s.data.toList.takeWhile (· !=61)=s.data.toList:=by
   have:=List.takeWhile_append_dropWhile (p:=fun x:UInt8=>x !=61) (l:=s.data.toList)
   rw[hdw,List.append_nil] at this;exact this
  have h1:fS s=s:=by unfold fS;rw[htw];rfl
  have h2:gR s=mkS []:=by unfold gR;rw[hdw];rfl
  have e8:¬((-1:Int)≥0):=by omega
  simp only[if_true,e8,decide_false,jS,jV,call3,jI,jC,jD,C.B_b,fO s hl,qy,he,Bool.true_or,Bool.and_true,h1,h2,eU]
  cases aS s<;>simp
 |false=>
  have hlt:(s.data.toList.takeWhile (· !=61)).length<s.data.toList.length:=by
   have h:=congrArg List.length (List.takeWhile_append_dropWhile (p:=fun x:UInt8=>x !=61) (l:=s.data.toList))
   rw[List.length_append] at h
   cases hq:s.data.toList.dropWhile (· !=61) with
   |nil=>rw[hq] at he;simp at he
   |cons x r=>rw[hq] at h;simp only[List.length_cons] at h;omega
  have his:(s.data.toList.takeWhile (· !=61)).length<s.size:=by rw[da];exact hlt
  have hw:=w1 his (show s.size<big by simp only[big];omega)
  have h1:s.extract 0 (s.data.toList.takeWhile (· !=61)).length=fS s:=by
   rw[lb,List.drop_zero];unfold fS;rw[pw]
  have h2:s.extract ((s.data.toList.takeWhile (· !=61)).length+1) s.size=gR s:=by
   rw[lb,da,List.take_length];unfold gR
   rw[←j8,List.tail_drop]
  have e3:(((s.data.toList.takeWhile (· !=61)).length:Int)≥0):=by omega
  have e4:((s.data.toList.takeWhile (· !=61)).length:Int)≤(s.size:Int):=by omega
  have e5:(((s.data.toList.takeWhile (· !=61)).length+1:Nat):Int)≤(s.size:Int):=by omega
  have e6:((1:Nat):Int)=1:=rfl
  simp only[Bool.false_eq_true,if_false,e6,hw,e3,e4,e5,decide_true,jR,jX,Int.le_refl,jY,h1,h2,jV,call3,jI,jC,jD,C.B_b,fO _ hn1,fO _ hn2,qy,he,Bool.false_or,jZ,ja]
  cases aS (fS s)<;>cases aS (gR s)<;>simp
end Go.Ev
namespace Go.Ev
def sLt (a b:Str):Bool:=Op.bytesLess a.toList b.toList
theorem qK:∀(a b:List UInt8),(Op.bytesLess a b||a==b)=!Op.bytesLess b a
 |[],[]=>by simp[Op.bytesLess]
 |[],_::_=>by simp[Op.bytesLess]
 |_::_,[]=>by simp[Op.bytesLess]
 |x::a,y::b=>by
  have ih:=qK a b
  simp only[Op.bytesLess]
  rcases Nat.lt_trichotomy x.toNat y.toNat with h|h|h
  ·have h1:x<y:=h
   have h2:¬y<x:=fun h'=>Nat.lt_asymm h h'
   have h3:¬y=x:=fun e=>by subst e;exact Nat.lt_irrefl _ h
   simp[h1,h2,h3]
  ·have e:x=y:=UInt8.toNat_inj.1 h
   subst e
   have:¬x<x:=Nat.lt_irrefl x.toNat
   simp only[this,decide_false,beq_self_eq_true,Bool.false_or,Bool.true_and]
   simpa using ih
  ·have h1:¬x<y:=fun h'=>Nat.lt_asymm h h'
   have h2:y<x:=h
   have h3:¬x=y:=fun e=>by subst e;exact Nat.lt_irrefl _ h
   simp[h1,h2,h3]
theorem zF (a b:Str):(sLt a b||sEq a b)=!sLt b a:=qK _ _
theorem ql (z v:C) (k k':Str):∀es:List (List C),k7 z k (l5 k' v es)=bif sEq k k' then v else k7 z k es
 |[]=>by simp[l5,k7,sEq]
 |r::es=>by
  simp only[l5]
  cases h:(k'.toList==(r.getD 0 .nil).S.toList) with
  |true=>
   have e:k'=(r.getD 0 .nil).S:=(bV _ _).1 h
   simp only[jR,k7,jC,jD,C.S_s]
   cases hk:sEq k k' with
   |true=>
    have h1:(k.toList==k'.toList)=true:=hk
    rw[h1];rfl
   |false=>
    have h1:(k.toList==k'.toList)=false:=hk
    have h2:(k.toList==(r.getD 0 .nil).S.toList)=false:=by rw[←e];exact hk
    rw[h1,h2];rfl
  |false=>
   simp only[jS,k7,ql z v k k' es]
   cases h2:sEq k k' with
   |true=>
    have e:=(bV _ _).1 h2
    subst e
    rw[h];rfl
   |false=>simp
theorem fL (a b:Str):sEq a b=sEq b a:=by
 rw[Bool.eq_iff_iff,bV,bV];exact eq_comm
def sAt (ms:List Str) (i:Nat):Str:=ms.getD i (mkS [])
theorem gj {ms:List Str} {i:Nat} (h:i<ms.length):sAt ms i=ms[i]:=by
 unfold sAt;rw[List.getD_eq_getElem?_getD,List.getElem?_eq_getElem h];rfl
def wz (ms:List Str) (nm:Str) (i:Nat):Bool:=aK (fun k=>!sEq (fS (sAt ms k)) nm) 0 i
def mA (ms:List Str) (i:Nat):Bool:=qy (sAt ms i)&&(i==0||sLt (sAt ms (i-1)) (sAt ms i))&&wz ms (fS (sAt ms i)) i
def p9 (ms:List Str):Bool:=decide (ms.length≤10)&&aK (mA ms) 0 ms.length
theorem sG (p:Nat→Bool):∀(k i:Nat),aK p i (k+1)=(aK p i k&&p (i+k))
 |0,i=>by simp[aK]
 |k+1,i=>by
  rw[aK,sG p k (i+1),aK]
  rw[show i+1+k=i+(k+1) by omega,Bool.and_assoc]
section
variable {ms:List Str} (hz:BD 1048576 ms)
include hz
theorem JR (i:Nat) (hi:i≤ms.length) (nm:Str):∀k j,k+j=i→lim (ap4 bc.d1) [.l (ms.map sE),.i (i:Nat),.s nm,.i (j:Nat)]=bif aK (fun k=>!sEq (fS (sAt ms k)) nm) j k then some (.brk 2 [.l (ms.map sE),.i (i:Nat),.s nm]) else some (.ret [.b false]):=by
 have hl:ms.length<big:=by have:=hz.1;simp only[big];omega
 refine eO (S:=fun j=>[.l (ms.map sE),.i (i:Nat),.s nm,.i (j:Nat)]) (fun j hj=>?_) ?_
 ·have hjl:j<ms.length:=by omega
  have hsz:(sAt ms j).size≤1048576:=by rw[gj hjl];exact hz.2 _ (List.getElem_mem hjl)
  have hjI:(j:Int)<(i:Int):=by omega
  simp only[apL,jC,jD,bc.d1,C.I_i,C.L_l,jW,jY,getD_map' sE hjl,←gj hjl,w1 hjl hl]
  simp only[sE,jC,px _ hsz,call3,jI,C.S_s,jD]
  cases hq:sEq (fS (sAt ms j)) nm<;>simp only[sEq] at hq<;>simp[hq,hj,hjl]
 ·simp[bc.d1]
theorem wF:bc [.l (ms.map sE)]=some [.b (p9 ms)]:=by
 have hl:ms.length<big:=by have:=hz.1;simp only[big];omega
 have h:=eO (body:=ap3 bc.d4) (S:=fun i=>[.l (ms.map sE),.s (bif i==0 then mkS [] else fS (sAt ms (i-1))),.i (i:Nat)]) (p:=mA ms) (n:=ms.length) (b:=0) (ys:=[]) (r:=[.b false])
  (fun i hi=>by
   have hsz:(sAt ms i).size≤1048576:=by rw[gj hi];exact hz.2 _ (List.getElem_mem hi)
   have hd3:∀nm:Str,bc.d3 (.l (ms.map sE)) (.i (i:Nat)) (.s nm)=bif wz ms nm i then some (.again [.l (ms.map sE),.s nm,.i (i+1:Nat)]) else some (.ret [.b false]):=fun nm=>by
    have:=JR hz i (by omega) nm i 0 (by omega)
    simp only[Int.natCast_zero] at this
    simp only[bc.d3,this,wz]
    cases aK (fun k=>!sEq (fS (sAt ms k)) nm) 0 i<;>simp[bc.d2,w1 hi hl]
   simp only[apL,jC,jD,bc.d4,C.I_i,C.L_l,jW,jY,getD_map' sE hi,←gj hi]
   simp only[sE,jC,px _ hsz,call3,jI,C.S_s,jD,C.B_b,Nat.add_sub_cancel]
   rcases Nat.eq_zero_or_pos i with h0|h0
   ·subst h0
    cases hok:qy (sAt ms 0) with
    |false=>simp[hok,mA,hi]
    |true=>
     have:=hd3 (fS (sAt ms 0))
     simp only[Int.natCast_zero] at this
     simp[hok,mA,hi,this,wz,aK]
   ·have hi1:i-1<ms.length:=by omega
    have hw:w64 ((i:Int)-1)=((i-1:Nat):Int):=by rw[aP (by omega) (by simp only[big] at hl;omega)];omega
    have e1:((i:Int)>0):=by omega
    have e2:(((i-1:Nat):Int)<(ms.length:Int)):=by omega
    have e3:((i:Int)<(ms.length:Int)):=by omega
    have e4:(i==0)=false:=by simp;omega
    have e5:(i+1==0)=false:=by simp
    simp only[hw,jY,getD_map' sE hi1,←gj hi1,e1,e2,e3,e4,e5,decide_true,jR,jS,jX,sE,jC,C.S_s,mA,Bool.false_or]
    show (bd (bif (!(!qy (sAt ms i))) then (bif (!(!sLt (sAt ms (i-1)) (sAt ms i))) then (bif sEq (fS (sAt ms i)) (fS (sAt ms (i-1))) then _ else _) else _) else _) _)=_
    cases hok:qy (sAt ms i) with
    |false=>simp
    |true=>
     cases hlt:sLt (sAt ms (i-1)) (sAt ms i) with
     |false=>simp
     |true=>
      cases hq:sEq (fS (sAt ms i)) (fS (sAt ms (i-1))) with
      |false=>simp[hd3]
      |true=>
       have:wz ms (fS (sAt ms i)) i=false:=by
        cases hdu:wz ms (fS (sAt ms i)) i with
        |false=>rfl
        |true=>
         have:=(dx _ _ _).1 hdu (i-1) (by omega) (by omega)
         simp only[Bool.not_eq_true'] at this
         rw[(bV _ _).1 hq] at this
         have h2:=(bV (fS (sAt ms (i-1))) (fS (sAt ms (i-1)))).2 rfl
         rw[h2] at this;simp at this
       simp[this])
  (by simp[bc.d4]) ms.length 0 rfl
 simp only[Int.natCast_zero] at h
 have h:lim (ap3 bc.d4) [.l (ms.map sE),.s (bs #[]),.i 0]=_:=h
 simp only[bc,bc.d6,apL,jC,C.L_l,jW,h,p9]
 by_cases h10:(ms.length:Int)>10
 ·have:¬ms.length≤10:=by omega
  simp[h10,this]
 ·have:ms.length≤10:=by omega
  simp only[h10,this,decide_true,decide_false,jS,Bool.true_and]
  cases aK (mA ms) 0 ms.length<;>simp[bc.d5]
def C3 (ms:List Str):Nat→List (List C)
 |0=>[]
 |i+1=>l5 (fS (sAt ms i)) (.b true) (C3 ms i)
omit hz in
theorem Bs (nm:Str):∀i,(k7 (.b false) nm (C3 ms i)).B=!wz ms nm i
 |0=>rfl
 |i+1=>by
  have hd:wz ms nm (i+1)=(wz ms nm i&&!sEq (fS (sAt ms i)) nm):=by
   unfold wz;rw[sG];simp
  rw[C3,ql,hd,fL]
  have ih:=Bs nm i
  cases h:sEq (fS (sAt ms i)) nm<;>simp[ih]
omit hz in
theorem sI (a b:Str):((Op.bytesLess b.toList a.toList)||(b.toList==a.toList))=!sLt a b:=by
 have:=zF b a
 exact this
theorem HK (name zone:Str) (room hold:Int) (shut:Bool):lim (s7 dH.d1) [.l (ms.map sE),.i (ms.length:Nat),.i 0,.s name,.s zone,.l (ms.map sE),.i room,.i hold,.b shut,.l []]=
  bif aK (mA ms) 0 ms.length then some (.brk 0 []) else some (.ret [.b false]):=by
 have h:=fun hl:ms.length<big=>eO (body:=s7 dH.d1) (S:=fun i=>[.l (ms.map sE),.i (ms.length:Nat),.i (i:Nat),.s name,.s zone,.l (ms.map sE),.i room,.i hold,.b shut,.l (C3 ms i)]) (p:=mA ms) (n:=ms.length) (b:=0) (ys:=[]) (r:=[.b false])
  (fun i hi=>by
   have hsz:(sAt ms i).size≤1048576:=by rw[gj hi];exact hz.2 _ (List.getElem_mem hi)
   have e3:((i:Int)<(ms.length:Int)):=by omega
   simp only[apL,jC,jD,dH.d1,C.I_i,C.L_l,jW,jY,getD_map' sE hi,←gj hi,w1 hi hl,e3,decide_true,jR,jX]
   simp only[sE,jC,vL _ hsz,call3,jI,C.S_s,jD,C.B_b,Bs,Bool.not_not,mA]
   cases hok:qy (sAt ms i) with
   |false=>simp
   |true=>
    cases hdu:wz ms (fS (sAt ms i)) i with
    |false=>simp
    |true=>
     rcases Nat.eq_zero_or_pos i with h0|h0
     ·subst h0;simp[C3]
     ·have hi1:i-1<ms.length:=by omega
      have hw:w64 ((i:Int)-1)=((i-1:Nat):Int):=by rw[aP (by omega) (by simp only[big] at hl;omega)];omega
      have e1:((i:Int)>0):=by omega
      have e2:(((i-1:Nat):Int)<(ms.length:Int)):=by omega
      have e4:(i==0)=false:=by simp;omega
      simp only[hw,jY,getD_map' sE hi1,←gj hi1,e1,e2,e4,decide_true,jR,jX,sE,jC,C.S_s,sI,Bool.false_or,jZ,ja,jS,Bool.true_and,Bool.and_true]
      cases sLt (sAt ms (i-1)) (sAt ms i)<;>simp[C3])
  (by simp[dH.d1]) ms.length 0 rfl
 have h:=h (by have:=hz.1;simp only[big];omega)
 simpa [C3] using h
end
def dq (b:Bt):Bool:=aS b.name&&(aS b.zone&&(p9 b.marks&&(within b.room 0 1000&&within b.hold 0 1000)))
theorem vQ (b:Bt) (hz:b.Sz 1048576):gQ b.e=some [.b (dq b)]:=by
 simp only[gQ,gQ.d1,Bt.e,apL,jC,jD,cA _ hz.1,cA _ hz.2.1,wF hz.2.2,fb,ad,jI,C.B_b,dq]
 cases aS b.name<;>cases aS b.zone<;>cases p9 b.marks<;>cases within b.room 0 1000<;>simp
theorem xR (b:Bt) (hz:b.Sz 1048576):dH b.e=some [.b (dq b)]:=by
 have hm:=HK (ms:=b.marks) hz.2.2 b.name b.zone b.room b.hold b.shut
 simp only[dH,dH.d3,Bt.e,apL,jC,jD,fO _ hz.1,fO _ hz.2.1,ma,ad,jI,C.B_b,C.L_l,jW,ao,hm,dq,p9]
 by_cases h10:(b.marks.length:Int)>10
 ·have:¬b.marks.length≤10:=by omega
  simp only[h10,this,decide_true,decide_false]
  cases aS b.name<;>cases aS b.zone<;>simp
 ·have:b.marks.length≤10:=by omega
  simp only[h10,this,decide_true,decide_false]
  cases aS b.name<;>cases aS b.zone<;>cases within b.room 0 1000<;>cases within b.hold 0 1000<;>cases aK (mA b.marks) 0 b.marks.length<;>simp[dH.d2]
end Go.Ev
namespace Go.Ev
def l9 (s:Str):Bool:=(pp s).code==0
def iI (x:Lk):Bool:=l9 x.sel&&within x.w (-9) 9
def Af (s:Str):Bool:=sEq s (mkS [])||aS s
def gI (c:Cp):Bool:=
 aS c.name&&(within c.rank 0 100&&(within c.born 0 1000000&&(within c.room 0 1000&&(within c.hold 0 1000&&(decide (c.likes.length≤5)&&(within c.apart 0 2&&(Af c.near&&(Af c.fixed&&(l9 c.sel&&c.likes.all iI)))))))))
theorem oG (s:Str) (hl:s.size≤1048576):fG [.s s]=some [.b (l9 s)]:=by
 simp only[fG,fG.d1,apL,jC,oO s hl,call2,jI,jD,C.I_i,jV,l9]
 have:(((pp s).code:Int)==0)=((pp s).code==0):=by
  rw[Bool.eq_iff_iff,beq_iff_eq,beq_iff_eq];omega
 rw[this]
def rQ (l:List Lk) (i:Nat):Bool:=match l[i]? with|some x=>iI x|none=>true
theorem yE (l:List Lk):aK (rQ l) 0 l.length=l.all iI:=by
 rw[Bool.eq_iff_iff,dx,List.all_eq_true]
 constructor
 ·intro h x hx
  obtain ⟨i,hi,rfl⟩:=List.getElem_of_mem hx
  have:=h i (Nat.zero_le _) (by omega)
  simpa [rQ,hi] using this
 ·intro h i _ hi
  have hi:i<l.length:=by omega
  simpa [rQ,hi] using h _ (List.getElem_mem hi)
theorem Hw (c:Cp) (hz:c.Sz 1048576) (K:List C→R):ai 0 (lim (oQ bQ.d1) ([.i 0]++c.e)) K=bif c.likes.all iI then K [] else some (.ret [.b false]):=by
 have hl:c.likes.length<big:=by have:=hz.2.2.2.2.2.2.1;simp only[big];omega
 have h:=eO (body:=oQ bQ.d1) (S:=fun i=>[.i (i:Nat)]++c.e) (p:=rQ c.likes) (n:=c.likes.length) (b:=0) (ys:=[]) (r:=[.b false])
  (fun i hi=>by
   have hsz:=hz.2.2.2.2.2.2.2 _ (List.getElem_mem hi)
   have e3:((i:Int)<(c.likes.length:Int)):=by omega
   have hp:rQ c.likes i=iI c.likes[i]:=by simp[rQ,hi]
   simp only[Cp.e,jA,jB,apL,jC,jD,bQ.d1,C.I_i,C.L_l,jW,jY,getD_map' Lk.e hi,w1 hi hl,e3,decide_true,jR,jX,hp,iI]
   simp only[Lk.e,jC,jD,oG _ hsz,fb,ad,jI,C.B_b]
   cases l9 c.likes[i].sel<;>cases within c.likes[i].w (-9) 9<;>simp)
  (by simp[bQ.d1,Cp.e]) c.likes.length 0 rfl
 simp only[Int.natCast_zero] at h
 rw[h,yE]
 cases c.likes.all iI<;>simp
theorem xQ (c:Cp) (hz:c.Sz 1048576):bQ c.e=some [.b (aS c.svc&&gI c)]:=by
 obtain ⟨z1,z2,z3,z4,z5,z6,z7,z8⟩:=hz
 have hlp:=Hw c ⟨z1,z2,z3,z4,z5,z6,z7,z8⟩ (fun xs=>bQ.d2)
 simp only[Cp.e,jA,jB] at hlp
 have q1:(c.near.toList==(bs #[]).toList)=sEq c.near (mkS []):=rfl
 have q2:(c.fixed.toList==(bs #[]).toList)=sEq c.fixed (mkS []):=rfl
 simp only[bQ,bQ.d4,Cp.e,apL,jC,jD,cA _ z1,cA _ z2,cA _ z4,cA _ z5,fb,oG _ z3,ad,jI,C.B_b,C.L_l,C.S_s,jW,gI,Af,q1,q2]
 have e5:decide ((c.likes.length:Int)>5)=!decide (c.likes.length≤5):=by
  by_cases h:c.likes.length≤5
  ·have:¬((c.likes.length:Int)>5):=by omega
   simp[h,this]
  ·have:((c.likes.length:Int)>5):=by omega
   simp[h,this]
 rw[e5]
 cases aS c.name with
 |false=>simp
 |true=>
 cases aS c.svc with
 |false=>simp
 |true=>
 cases within c.rank 0 100 with
 |false=>simp
 |true=>
 cases within c.born 0 1000000 with
 |false=>simp
 |true=>
 cases within c.room 0 1000 with
 |false=>simp
 |true=>
 cases within c.hold 0 1000 with
 |false=>simp
 |true=>
 simp only[jZ,ja,jR,jS,Bool.true_and]
 cases l9 c.sel with
 |false=>simp[bQ.d3]
 |true=>
 cases decide (c.likes.length≤5) with
 |false=>simp[bQ.d3]
 |true=>
 cases within c.apart 0 2 with
 |false=>simp[bQ.d3]
 |true=>
 simp only[jZ,ja,jR,jS,Bool.true_and]
 cases sEq c.near (mkS [])<;>cases aS c.near<;>cases sEq c.fixed (mkS [])<;>cases aS c.fixed<;>simp[bQ.d3,hlp]<;>cases c.likes.all iI<;>simp[bQ.d2]
theorem G7 (l:List Lk) (hz:l.length≤1048576∧∀x,x∈l→x.sel.size≤1048576) (K:List C→R):ai 0 (lim (ap3 cV.d1) [.l (l.map Lk.e),.i (l.length:Nat),.i 0]) K=bif l.all iI then K [] else some (.ret [.b false]):=by
 have hl:l.length<big:=by have:=hz.1;simp only[big];omega
 have h:=eO (body:=ap3 cV.d1) (S:=fun i=>[.l (l.map Lk.e),.i (l.length:Nat),.i (i:Nat)]) (p:=rQ l) (n:=l.length) (b:=0) (ys:=[]) (r:=[.b false])
  (fun i hi=>by
   have hsz:=hz.2 _ (List.getElem_mem hi)
   have e3:((i:Int)<(l.length:Int)):=by omega
   have hp:rQ l i=iI l[i]:=by simp[rQ,hi]
   have hc:(((pp l[i].sel).code:Int) !=0)=!l9 l[i].sel:=by
    unfold l9 bne
    congr 1
    rw[Bool.eq_iff_iff,beq_iff_eq,beq_iff_eq];omega
   simp only[apL,jC,jD,cV.d1,C.I_i,C.L_l,jW,jY,getD_map' Lk.e hi,w1 hi hl,e3,decide_true,jR,jX,hp,iI]
   simp only[Lk.e,jC,jD,o6 _ hsz,ma,ad,call2,jI,C.B_b,C.I_i,hc]
   cases l9 l[i].sel<;>cases within l[i].w (-9) 9<;>simp)
  (by simp[cV.d1]) l.length 0 rfl
 simp only[Int.natCast_zero] at h
 rw[h,yE]
 cases l.all iI<;>simp
theorem zT (c:Cp) (hz:c.Sz 1048576):cV c.e=some [.b (gI c)]:=by
 obtain ⟨z1,z2,z3,z4,z5,z6,z7⟩:=hz
 have hlp:=G7 c.likes z7 (fun xs=>cV.d2)
 have q1:(c.near.toList==(bs #[]).toList)=sEq c.near (mkS []):=rfl
 have q2:(c.fixed.toList==(bs #[]).toList)=sEq c.fixed (mkS []):=rfl
 have hc:(((pp c.sel).code:Int) !=0)=!l9 c.sel:=by
  unfold l9 bne
  congr 1
  rw[Bool.eq_iff_iff,beq_iff_eq,beq_iff_eq];omega
 simp only[cV,cV.d4,Cp.e,apL,jC,jD,fO _ z1,fO _ z4,fO _ z5,ma,ad,jI,C.B_b,C.L_l,C.S_s,jW,gI,Af,q1,q2]
 have e5:decide ((c.likes.length:Int)>5)=!decide (c.likes.length≤5):=by
  by_cases h:c.likes.length≤5
  ·have:¬((c.likes.length:Int)>5):=by omega
   simp[h,this]
  ·have:((c.likes.length:Int)>5):=by omega
   simp[h,this]
 rw[e5]
 have hd3:∀b:Bool,cV.d3 (.b b) (.s c.name) (.s c.svc) (.i c.rank) (.i c.born) (.i c.room) (.i c.hold) (.s c.sel) (.l (c.likes.map Lk.e)) (.i c.apart) (.s c.near) (.s c.fixed) (.s c.at_)=bif b then some (.ret [.b false]) else bif l9 c.sel&&c.likes.all iI then some (.ret [.b true]) else some (.ret [.b false]):=fun b=>by
  simp only[cV.d3,C.B_b,o6 _ z3,call2,jI,jC,jD,C.I_i,hc,C.L_l,jW,hlp]
  cases b<;>cases l9 c.sel<;>cases c.likes.all iI<;>simp[cV.d2]
 cases aS c.name with
 |false=>simp[hd3]
 |true=>
 cases within c.rank 0 100 with
 |false=>simp[hd3]
 |true=>
 cases within c.born 0 1000000 with
 |false=>simp[hd3]
 |true=>
 cases within c.room 0 1000 with
 |false=>simp[hd3]
 |true=>
 cases within c.hold 0 1000 with
 |false=>simp[hd3]
 |true=>
 simp only[jZ,ja,jR,jS,Bool.true_and]
 cases decide (c.likes.length≤5) with
 |false=>simp[hd3]
 |true=>
 cases within c.apart 0 2 with
 |false=>simp[hd3]
 |true=>
 simp only[jZ,ja,jR,jS,Bool.true_and]
 cases sEq c.near (mkS [])<;>cases aS c.near<;>cases sEq c.fixed (mkS [])<;>cases aS c.fixed<;>simp[hd3]<;>cases l9 c.sel&&c.likes.all iI<;>simp
def lC (l:List Cp) (nm:Str):Nat→Int
 |0=>0
 |i+1=>match l[i]? with
  |some c=>bif sEq c.at_ nm then w64 (lC l nm i+c.room) else lC l nm i
  |none=>lC l nm i
def lR (l:List Cp) (nm:Str):Nat→Int
 |0=>0
 |i+1=>match l[i]? with
  |some c=>bif sEq c.at_ nm then w64 (lR l nm i+c.hold) else lR l nm i
  |none=>lR l nm i
def used (f:Fl) (nm:Str):Int×Int:=bif sEq nm (mkS [])||decide (bIx f nm<0) then (0,0) else (lC f.cps nm f.cps.length,lR f.cps nm f.cps.length)
theorem wI (f:Fl) (nm:Str) (hz:f.Sz 1048576):bD (f.e++[.s nm])=some [.i (used f nm).1,.i (used f nm).2]:=by
 have hl:f.cps.length<big:=by have:=hz.2.2.1;simp only[big];omega
 have hb:=k9 f nm hz.1.1
 have q1:(nm.toList==(bs #[]).toList)=sEq nm (mkS []):=rfl
 simp only[Fl.e,jA,jB] at hb
 simp only[bD,bD.d4,Fl.e,jA,jB,apL,jC,jD,hb,ad,jI,C.I_i,used]
 cases hlt:decide (bIx f nm<0) with
 |true=>simp
 |false=>
  simp only[jS,Bool.or_false]
  cases he:sEq nm (mkS []) with
  |true=>
   have h:=cD (body:=ap8 bD.d2) (S:=fun i=>[.s nm,.i 0,.i 0,.i (i:Nat),.b f.pack,.l (f.bts.map Bt.e),.l (f.svs.map Sv.e),.l (f.cps.map Cp.e)]) (n:=f.cps.length) (b:=0) (ys:=[.i 0,.i 0])
    (fun i hi=>by
     have e3:((i:Int)<(f.cps.length:Int)):=by omega
     simp only[apL,jC,jD,bD.d2,bD.d1,C.I_i,C.L_l,C.S_s,jW,q1,he,e3,decide_true,jR,jZ,jS,jJ,C.B_b,w1 hi hl])
    (by simp[bD.d2]) f.cps.length 0 rfl
   simp only[Int.natCast_zero] at h
   rw[h]
   simp[bD.d3]
  |false=>
   have h:=cD (body:=ap8 bD.d2) (S:=fun i=>[.s nm,.i (lC f.cps nm i),.i (lR f.cps nm i),.i (i:Nat),.b f.pack,.l (f.bts.map Bt.e),.l (f.svs.map Sv.e),.l (f.cps.map Cp.e)]) (n:=f.cps.length) (b:=0) (ys:=[.i (lC f.cps nm f.cps.length),.i (lR f.cps nm f.cps.length)])
    (fun i hi=>by
     have e3:((i:Int)<(f.cps.length:Int)):=by omega
     simp only[apL,jC,jD,bD.d2,bD.d1,C.I_i,C.L_l,C.S_s,jW,jY,getD_map' Cp.e hi,q1,he,e3,decide_true,jR,ja,jX,jJ,C.B_b,w1 hi hl,lC,lR,List.getElem?_eq_getElem hi]
     simp only[Cp.e,jC,jD,C.S_s,C.I_i]
     show (bif sEq f.cps[i].at_ nm then _ else _)=_
     cases sEq f.cps[i].at_ nm<;>simp)
    (by simp[bD.d2]) f.cps.length 0 rfl
   simp only[Int.natCast_zero,lC,lR] at h
   rw[h]
   simp[bD.d3]
theorem wJ (f:Fl) (nm:Str) (hz:f.Sz 1048576):dr (f.e++[.s nm])=some [.i (used f nm).1,.i (used f nm).2]:=by
 have hl:f.cps.length<big:=by have:=hz.2.2.1;simp only[big];omega
 have hb:=mE f nm hz.1.1
 have q1:(nm.toList==(bs #[]).toList)=sEq nm (mkS []):=rfl
 simp only[Fl.e,jA,jB] at hb
 simp only[dr,dr.d3,Fl.e,jA,jB,apL,jC,jD,C.S_s,q1,hb,ad,jI,C.I_i,C.L_l,jW,used]
 cases he:sEq nm (mkS []) with
 |true=>simp
 |false=>
  simp only[ja,jR,Bool.false_or]
  cases hlt:decide (bIx f nm<0) with
  |true=>simp
  |false=>
   have h:=cD (body:=ap6 dr.d1) (S:=fun i=>[.s nm,.i (lC f.cps nm i),.i (lR f.cps nm i),.l (f.cps.map Cp.e),.i (f.cps.length:Nat),.i (i:Nat)]) (n:=f.cps.length) (b:=0) (ys:=[.i (lC f.cps nm f.cps.length),.i (lR f.cps nm f.cps.length)])
    (fun i hi=>by
     have e3:((i:Int)<(f.cps.length:Int)):=by omega
     simp only[apL,jC,jD,dr.d1,C.I_i,C.L_l,C.S_s,jW,jY,getD_map' Cp.e hi,e3,decide_true,jR,jX,w1 hi hl,lC,lR,List.getElem?_eq_getElem hi]
     simp only[Cp.e,jC,jD,C.S_s,C.I_i]
     show (bif sEq f.cps[i].at_ nm then _ else _)=_
     cases sEq f.cps[i].at_ nm<;>simp)
    (by simp[dr.d1]) f.cps.length 0 rfl
   simp only[Int.natCast_zero,lC,lR] at h
   rw[h]
   simp[dr.d2]
end Go.Ev
namespace Go.Ev
theorem om {α:Type} (p:α→Bool):∀(l:List α) (n:Nat),decide (eA p l n<0)=!l.any p
 |[],n=>by simp[eA]
 |x::r,n=>by
  cases hx:p x with
  |true=>
   have:¬((n:Int)<0):=by omega
   simp[eA,hx,this]
  |false=>simp[eA,hx,om p r (n+1)]
def eC (l:List Cp) (nm:Str):Nat→Nat
 |0=>0
 |i+1=>match l[i]? with
  |some c=>bif sEq c.at_ nm then eC l nm i+1 else eC l nm i
  |none=>eC l nm i
theorem tt (l:List Cp) (nm:Str):∀i,eC l nm i≤i
 |0=>Nat.le_refl _
 |i+1=>by
  have:=tt l nm i
  simp only[eC]
  split
  ·rename_i c _
   cases sEq c.at_ nm<;>simp<;>omega
  ·omega
theorem zB (f:Fl) (nm:Str) (hz:f.Sz 1048576):ek (f.e++[.s nm])=some [.i (eC f.cps nm f.cps.length:Nat)]:=by
 have hl:f.cps.length<big:=by have:=hz.2.2.1;simp only[big];omega
 have h:=cD (body:=ap7 ek.d1) (S:=fun i=>[.s nm,.i (eC f.cps nm i:Nat),.i (i:Nat),.b f.pack,.l (f.bts.map Bt.e),.l (f.svs.map Sv.e),.l (f.cps.map Cp.e)]) (n:=f.cps.length) (b:=0) (ys:=[.i (eC f.cps nm f.cps.length:Nat)])
  (fun i hi=>by
   have e3:((i:Int)<(f.cps.length:Int)):=by omega
   have hw:=sW (n:=eC f.cps nm i) (by have:=tt f.cps nm i;omega)
   simp only[apL,jC,jD,ek.d1,C.I_i,C.L_l,C.S_s,jW,jY,getD_map' Cp.e hi,e3,decide_true,jR,jX,w1 hi hl,hw,eC,List.getElem?_eq_getElem hi]
   simp only[Cp.e,jC,jD,C.S_s]
   show (bif sEq f.cps[i].at_ nm then _ else _)=_
   cases sEq f.cps[i].at_ nm<;>simp)
  (by simp[ek.d1]) f.cps.length 0 rfl
 simp only[Int.natCast_zero,eC] at h
 simp only[ek,ek.d3,Fl.e,jA,jB,apL,jC,jD]
 rw[h]
 simp[ek.d2]
def svA (f:Fl) (i:Nat):Bool:=match f.svs[i]? with
 |some s=>aS s.name&&((i==0||match f.svs[i-1]? with|some q=>sLt q.name s.name|none=>true)&&within s.spare 0 60)
 |none=>true
def cpA (f:Fl) (i:Nat):Bool:=match f.cps[i]? with
 |some c=>gI c&&(f.svs.any (fun s=>sEq s.name c.svc)&&((i==0||match f.cps[i-1]? with|some q=>sLt q.name c.name|none=>true)&&(sEq c.at_ (mkS [])||f.bts.any (fun b=>sEq b.name c.at_))))
 |none=>true
def btA (f:Fl) (i:Nat):Bool:=match f.bts[i]? with
 |some b=>dq b&&(i==0||match f.bts[i-1]? with|some q=>sLt q.name b.name|none=>true)
 |none=>true
def qX (f:Fl) (i:Nat):Bool:=match f.bts[i]? with
 |some b=>decide ((used f b.name).1≤b.room)&&(decide ((used f b.name).2≤b.hold)&&decide (eC f.cps b.name f.cps.length≤10))
 |none=>true
def bP (f:Fl):Bool:=decide (f.bts.length≤12)&&(decide (f.svs.length≤30)&&(decide (f.cps.length≤60)&&(aK (svA f) 0 f.svs.length&&(aK (cpA f) 0 f.cps.length&&(aK (btA f) 0 f.bts.length&&aK (qX f) 0 f.bts.length)))))
section
variable {f:Fl} (hz:f.Sz 1048576)
include hz
theorem Km (K:List C→R):ai 0 (lim (ap5 aw.d1) ([.i 0]++f.e)) K=bif aK (svA f) 0 f.svs.length then K f.e else some (.ret [.b false]):=by
 have hl:f.svs.length<big:=by have:=hz.2.1.1;simp only[big];omega
 have h:=eO (body:=ap5 aw.d1) (S:=fun i=>[.i (i:Nat)]++f.e) (p:=svA f) (n:=f.svs.length) (b:=0) (ys:=f.e) (r:=[.b false])
  (fun i hi=>by
   have hsz:=hz.2.1.2 _ (List.getElem_mem hi)
   have e3:((i:Int)<(f.svs.length:Int)):=by omega
   have hp:svA f i=(aS f.svs[i].name&&((i==0||match f.svs[i-1]? with|some q=>sLt q.name f.svs[i].name|none=>true)&&within f.svs[i].spare 0 60)):=by simp[svA,hi]
   simp only[Fl.e,jA,jB,apL,jC,jD,aw.d1,C.I_i,C.L_l,jW,jY,getD_map' Sv.e hi,w1 hi hl,e3,decide_true,jR,jX,hp]
   simp only[Sv.e,jC,jD,cA _ hsz,fb,ad,jI,C.B_b,C.S_s]
   cases hn:aS f.svs[i].name with
   |false=>simp
   |true=>
    rcases Nat.eq_zero_or_pos i with h0|h0
    ·subst h0
     cases within f.svs[0].spare 0 60<;>simp
    ·have hi1:i-1<f.svs.length:=by omega
     have hw:w64 ((i:Int)-1)=((i-1:Nat):Int):=by rw[aP (by omega) (by simp only[big] at hl;omega)];omega
     have e1:((i:Int)>0):=by omega
     have e2:(((i-1:Nat):Int)<(f.svs.length:Int)):=by omega
     have e4:(i==0)=false:=by simp;omega
     simp only[hw,jY,getD_map' Sv.e hi1,e1,e2,e4,decide_true,jR,jX,List.getElem?_eq_getElem hi1,Bool.false_or,jZ,ja,Bool.true_and]
     simp only[Sv.e,jC,C.S_s]
     show (bif (!(!sLt f.svs[i-1].name f.svs[i].name)) then _ else _)=_
     cases sLt f.svs[i-1].name f.svs[i].name<;>cases within f.svs[i].spare 0 60<;>simp)
  (by simp[aw.d1,Fl.e]) f.svs.length 0 rfl
 simp only[Int.natCast_zero] at h
 rw[h]
 cases aK (svA f) 0 f.svs.length<;>simp
theorem J6 (hn:∀s,s∈f.svs→aS s.name=true) (K:List C→R):ai 2 (lim (ap5 aw.d3) ([.i 0]++f.e)) K=bif aK (cpA f) 0 f.cps.length then K f.e else some (.ret [.b false]):=by
 have hl:f.cps.length<big:=by have:=hz.2.2.1;simp only[big];omega
 have h:=eO (body:=ap5 aw.d3) (S:=fun i=>[.i (i:Nat)]++f.e) (p:=cpA f) (n:=f.cps.length) (b:=2) (ys:=f.e) (r:=[.b false])
  (fun i hi=>by
   have hsz:=hz.2.2.2 _ (List.getElem_mem hi)
   have e3:((i:Int)<(f.cps.length:Int)):=by omega
   have hp:cpA f i=(gI f.cps[i]&&(f.svs.any (fun s=>sEq s.name f.cps[i].svc)&&((i==0||match f.cps[i-1]? with|some q=>sLt q.name f.cps[i].name|none=>true)&&(sEq f.cps[i].at_ (mkS [])||f.bts.any (fun b=>sEq b.name f.cps[i].at_))))):=by simp[cpA,hi]
   have hsv:=vN f f.cps[i].svc hz.2.1.1
   have hbt:=k9 f f.cps[i].at_ hz.1.1
   have hco:=xQ f.cps[i] hsz
   have q1:(f.cps[i].at_.toList==(bs #[]).toList)=sEq f.cps[i].at_ (mkS []):=rfl
   have hs1:decide (sIx f f.cps[i].svc<0)=!f.svs.any (fun s=>sEq s.name f.cps[i].svc):=om _ _ _
   have hb1:decide (bIx f f.cps[i].at_<0)=!f.bts.any (fun b=>sEq b.name f.cps[i].at_):=om _ _ _
   have hany:f.svs.any (fun s=>sEq s.name f.cps[i].svc)=true→aS f.cps[i].svc=true:=fun h=>by
    obtain ⟨s,h1,h2⟩:=List.any_eq_true.1 h
    rw[←(bV _ _).1 h2];exact hn s h1
   simp only[Fl.e,jA,jB] at hsv hbt
   simp only[Cp.e] at hco
   simp only[Fl.e,jA,jB,apL,jC,jD,aw.d3,C.I_i,C.L_l,jW,jY,getD_map' Cp.e hi,e3,decide_true,jR,jX,hp]
   simp only[Cp.e,jC,jD,hco,hsv,hbt,ad,jI,C.B_b,C.S_s,C.I_i,q1,hs1,hb1]
   have hd2:∀b:Bool,aw.d2 (.i (i:Nat)) (.b b) (.b f.pack) (.l (f.bts.map Bt.e)) (.l (f.svs.map Sv.e)) (.l (f.cps.map Cp.e))=bif b then some (.ret [.b false]) else some (.again [.i (i+1:Nat),.b f.pack,.l (f.bts.map Bt.e),.l (f.svs.map Sv.e),.l (f.cps.map Cp.e)]):=fun b=>by
    simp only[aw.d2,C.B_b,C.I_i,w1 hi hl]
   cases hany2:f.svs.any (fun s=>sEq s.name f.cps[i].svc) with
   |false=>
    have:∀a b:Bool,(a&&(false&&b))=false:=by decide
    rw[this]
    cases aS f.cps[i].svc&&gI f.cps[i] with
    |false=>simp[hd2]
    |true=>
     rcases Nat.eq_zero_or_pos i with h0|h0
     ·subst h0
      simp only[Int.natCast_zero] at hd2
      simp[hd2]
     ·have hi1:i-1<f.cps.length:=by omega
      have hw:w64 ((i:Int)-1)=((i-1:Nat):Int):=by rw[aP (by omega) (by simp only[big] at hl;omega)];omega
      have e1:((i:Int)>0):=by omega
      have e2:(((i-1:Nat):Int)<(f.cps.length:Int)):=by omega
      simp only[hw,jY,getD_map' Cp.e hi1,e1,e2,decide_true,jR,jX,jZ,ja,jS]
      cases (Op.bytesLess ((f.cps[i-1].e.getD 0 .nil).S).toList (f.cps[i].name).toList)<;>simp[hd2]
   |true=>
    rw[hany hany2,Bool.true_and,Bool.true_and]
    cases gI f.cps[i] with
    |false=>simp[hd2]
    |true=>
     rcases Nat.eq_zero_or_pos i with h0|h0
     ·subst h0
      simp only[Int.natCast_zero] at hd2
      cases sEq f.cps[0].at_ (mkS [])<;>cases f.bts.any (fun b=>sEq b.name f.cps[0].at_)<;>simp[hd2]
     ·have hi1:i-1<f.cps.length:=by omega
      have hw:w64 ((i:Int)-1)=((i-1:Nat):Int):=by rw[aP (by omega) (by simp only[big] at hl;omega)];omega
      have e1:((i:Int)>0):=by omega
      have e2:(((i-1:Nat):Int)<(f.cps.length:Int)):=by omega
      have e4:(i==0)=false:=by simp;omega
      simp only[hw,jY,getD_map' Cp.e hi1,e1,e2,e4,decide_true,jR,jX,List.getElem?_eq_getElem hi1,Bool.false_or,jZ,ja,jS,Bool.true_and]
      have hn0:(f.cps[i-1].e.getD 0 .nil).S=f.cps[i-1].name:=rfl
      rw[hn0]
      show bd (bif (!(!sLt f.cps[i-1].name f.cps[i].name)) then _ else _) _=_
      cases sLt f.cps[i-1].name f.cps[i].name<;>cases sEq f.cps[i].at_ (mkS [])<;>cases f.bts.any (fun b=>sEq b.name f.cps[i].at_)<;>simp[hd2])
  (by simp[aw.d3,Fl.e]) f.cps.length 0 rfl
 simp only[Int.natCast_zero] at h
 rw[h]
 cases aK (cpA f) 0 f.cps.length<;>simp
theorem J2 (K:List C→R):ai 4 (lim (ap5 aw.d4) ([.i 0]++f.e)) K=bif aK (fun i=>btA f i&&qX f i) 0 f.bts.length then K [] else some (.ret [.b false]):=by
 have hl:f.bts.length<big:=by have:=hz.1.1;simp only[big];omega
 have h:=eO (body:=ap5 aw.d4) (S:=fun i=>[.i (i:Nat)]++f.e) (p:=fun i=>btA f i&&qX f i) (n:=f.bts.length) (b:=4) (ys:=[]) (r:=[.b false])
  (fun i hi=>by
   have hsz:=hz.1.2 _ (List.getElem_mem hi)
   have e3:((i:Int)<(f.bts.length:Int)):=by omega
   have hp:btA f i=(dq f.bts[i]&&(i==0||match f.bts[i-1]? with|some q=>sLt q.name f.bts[i].name|none=>true)):=by simp[btA,hi]
   have hq:qX f i=(decide ((used f f.bts[i].name).1≤f.bts[i].room)&&(decide ((used f f.bts[i].name).2≤f.bts[i].hold)&&decide (eC f.cps f.bts[i].name f.cps.length≤10))):=by simp[qX,hi]
   have hu:=wI f f.bts[i].name hz
   have hs:=zB f f.bts[i].name hz
   have hb:=vQ f.bts[i] hsz
   have g1:decide ((used f f.bts[i].name).1>f.bts[i].room)=!decide ((used f f.bts[i].name).1≤f.bts[i].room):=by rw[←decide_not,decide_eq_decide];omega
   have g2:decide ((used f f.bts[i].name).2>f.bts[i].hold)=!decide ((used f f.bts[i].name).2≤f.bts[i].hold):=by rw[←decide_not,decide_eq_decide];omega
   have g3:decide ((eC f.cps f.bts[i].name f.cps.length:Int)>10)=!decide (eC f.cps f.bts[i].name f.cps.length≤10):=by rw[←decide_not,decide_eq_decide];omega
   simp only[Fl.e,jA,jB] at hu hs
   simp only[Bt.e] at hb
   simp only[Fl.e,jA,jB,apL,jC,jD,aw.d4,C.I_i,C.L_l,jW,jY,getD_map' Bt.e hi,e3,decide_true,jR,jX,w1 hi hl]
   simp only[Bt.e,jC,jD,hu,hs,hb,ad,call2,jI,C.B_b,C.S_s,C.I_i,g1,g2,g3,hp,hq,Bool.not_not]
   cases dq f.bts[i] with
   |false=>simp
   |true=>
    rcases Nat.eq_zero_or_pos i with h0|h0
    ·subst h0
     cases decide ((used f f.bts[0].name).1≤f.bts[0].room)<;>cases decide ((used f f.bts[0].name).2≤f.bts[0].hold)<;>cases decide (eC f.cps f.bts[0].name f.cps.length≤10)<;>simp
    ·have hi1:i-1<f.bts.length:=by omega
     have hw:w64 ((i:Int)-1)=((i-1:Nat):Int):=by rw[aP (by omega) (by simp only[big] at hl;omega)];omega
     have e1:((i:Int)>0):=by omega
     have e2:(((i-1:Nat):Int)<(f.bts.length:Int)):=by omega
     have e4:(i==0)=false:=by simp;omega
     simp only[hw,jY,getD_map' Bt.e hi1,e1,e2,e4,decide_true,jR,jX,List.getElem?_eq_getElem hi1,Bool.false_or,jZ,ja,jS,Bool.true_and]
     have hn0:(f.bts[i-1].e.getD 0 .nil).S=f.bts[i-1].name:=rfl
     rw[hn0]
     show (bif sLt f.bts[i-1].name f.bts[i].name then _ else _)=_
     cases sLt f.bts[i-1].name f.bts[i].name<;>cases decide ((used f f.bts[i].name).1≤f.bts[i].room)<;>cases decide ((used f f.bts[i].name).2≤f.bts[i].hold)<;>cases decide (eC f.cps f.bts[i].name f.cps.length≤10)<;>simp)
  (by simp[aw.d4,Fl.e]) f.bts.length 0 rfl
 simp only[Int.natCast_zero] at h
 rw[h]
 cases aK (fun i=>btA f i&&qX f i) 0 f.bts.length<;>simp
omit hz in
theorem ES (h:aK (svA f) 0 f.svs.length=true):∀s,s∈f.svs→aS s.name=true:=by
 intro s hs
 obtain ⟨i,hi,rfl⟩:=List.getElem_of_mem hs
 have:=(dx _ _ _).1 h i (Nat.zero_le _) (by omega)
 simp only[svA,List.getElem?_eq_getElem hi,Bool.and_eq_true] at this
 exact this.1
omit hz in
theorem uA (p q:Nat→Bool):∀k i,aK (fun i=>p i&&q i) i k=(aK p i k&&aK q i k)
 |0,i=>rfl
 |k+1,i=>by
  simp only[aK,uA p q k (i+1)]
  cases p i<;>cases q i<;>cases aK p (i+1) k<;>simp
theorem fA:aw f.e=some [.b (bP f)]:=by
 have h1:=Km hz (ap4 aw.d7)
 have h3:=J2 hz (fun xs=>aw.d5)
 simp only[Fl.e,jA,jB] at h1 h3
 have g1:decide ((f.bts.length:Int)>12)=!decide (f.bts.length≤12):=by rw[←decide_not,decide_eq_decide];omega
 have g2:decide ((f.svs.length:Int)>30)=!decide (f.svs.length≤30):=by rw[←decide_not,decide_eq_decide];omega
 have g3:decide ((f.cps.length:Int)>60)=!decide (f.cps.length≤60):=by rw[←decide_not,decide_eq_decide];omega
 simp only[aw,aw.d8,Fl.e,apL,jC,jD,C.L_l,jW,g1,g2,g3,Bool.not_not,h1,bP]
 cases decide (f.bts.length≤12) with
 |false=>simp
 |true=>
 cases decide (f.svs.length≤30) with
 |false=>simp
 |true=>
 cases decide (f.cps.length≤60) with
 |false=>simp
 |true=>
 cases hs:aK (svA f) 0 f.svs.length with
 |false=>simp
 |true=>
  have h2:=J6 hz (ES hs) (ap4 aw.d6)
  simp only[Fl.e,jA,jB] at h2
  simp only[jR,jZ,jS,Bool.true_and,aw.d7,apL,jC,jD,h2]
  cases aK (cpA f) 0 f.cps.length with
  |false=>simp
  |true=>
   simp only[jR,Bool.true_and,aw.d6,apL,jC,jD,h3,uA]
   cases aK (btA f) 0 f.bts.length<;>cases aK (qX f) 0 f.bts.length<;>simp[aw.d5]
end
end Go.Ev
namespace Go.Ev
def tM (l:List Sv):Nat→List (List C)
 |0=>[]
 |i+1=>match l[i]? with
  |some s=>l5 s.name (.b true) (tM l i)
  |none=>tM l i
theorem BQ (l:List Sv) (nm:Str):∀i,i≤l.length→(k7 (.b false) nm (tM l i)).B=(l.take i).any (fun s=>sEq s.name nm)
 |0,_=>rfl
 |i+1,h=>by
  have hi:i<l.length:=h
  rw[tM,List.getElem?_eq_getElem hi]
  simp only
  rw[ql,List.take_succ_eq_append_getElem hi,List.any_append,fL]
  have ih:=BQ l nm i (by omega)
  cases hq:sEq l[i].name nm with
  |true=>simp[hq]
  |false=>simp[hq,ih]
def rP (l:List Cp):Nat→List (List C)
 |0=>[]
 |i+1=>match l[i]? with
  |some c=>l5 c.at_ (.i (w64 ((k7 (.i 0) c.at_ (rP l i)).I+1))) (rP l i)
  |none=>rP l i
theorem wZ (l:List Cp) (hl:l.length<big) (nm:Str):∀i,i≤l.length→k7 (.i 0) nm (rP l i)=.i (eC l nm i:Nat)
 |0,_=>rfl
 |i+1,h=>by
  have hi:i<l.length:=h
  have ih:=wZ l hl nm i (by omega)
  have ih2:=wZ l hl l[i].at_ i (by omega)
  rw[rP,eC,List.getElem?_eq_getElem hi]
  simp only
  rw[ql,ih,ih2,fL]
  have hw:=sW (n:=eC l l[i].at_ i) (by have:=tt l l[i].at_ i;omega)
  cases hq:sEq l[i].at_ nm with
  |true=>
   have:=(bV _ _).1 hq
   subst this
   simp only[jR,C.I_i,hw]
  |false=>rfl
section
variable {f:Fl} (hz:f.Sz 1048576)
include hz
theorem Kp (K:List C→R):ai 0 (lim (ap7 aq.d1) ([.l (f.bts.map Bt.e),.i (f.bts.length:Nat),.i 0]++f.e)) K=bif aK (btA f) 0 f.bts.length then K f.e else some (.ret [.b false]):=by
 have hl:f.bts.length<big:=by have:=hz.1.1;simp only[big];omega
 have h:=eO (body:=ap7 aq.d1) (S:=fun i=>[.l (f.bts.map Bt.e),.i (f.bts.length:Nat),.i (i:Nat)]++f.e) (p:=btA f) (n:=f.bts.length) (b:=0) (ys:=f.e) (r:=[.b false])
  (fun i hi=>by
   have hsz:=hz.1.2 _ (List.getElem_mem hi)
   have e3:((i:Int)<(f.bts.length:Int)):=by omega
   have hp:btA f i=(dq f.bts[i]&&(i==0||match f.bts[i-1]? with|some q=>sLt q.name f.bts[i].name|none=>true)):=by simp only[btA,List.getElem?_eq_getElem hi]<;>rfl
   have hb:=xR f.bts[i] hsz
   simp only[Bt.e] at hb
   simp only[Fl.e,jA,jB,apL,jC,jD,aq.d1,C.I_i,C.L_l,jW,jY,getD_map' Bt.e hi,e3,decide_true,jR,jX,w1 hi hl]
   simp only[Bt.e,jC,jD,hb,ad,jI,C.B_b,C.S_s,hp]
   cases dq f.bts[i] with
   |false=>simp
   |true=>
    rcases Nat.eq_zero_or_pos i with h0|h0
    ·subst h0;simp
    ·have hi1:i-1<f.bts.length:=by omega
     have hw:w64 ((i:Int)-1)=((i-1:Nat):Int):=by rw[aP (by omega) (by simp only[big] at hl;omega)];omega
     have e1:((i:Int)>0):=by omega
     have e2:(((i-1:Nat):Int)<(f.bts.length:Int)):=by omega
     have e4:(i==0)=false:=by simp;omega
     have hn0:(f.bts[i-1].e.getD 0 .nil).S=f.bts[i-1].name:=rfl
     simp only[hw,jY,getD_map' Bt.e hi1,e1,e2,e4,decide_true,jR,jX,List.getElem?_eq_getElem hi1,Bool.false_or,jZ,ja,jS,Bool.true_and,hn0,sI]
     cases sLt f.bts[i-1].name f.bts[i].name<;>simp)
  (by simp[aq.d1,Fl.e]) f.bts.length 0 rfl
 simp only[Int.natCast_zero] at h
 rw[h]
 cases aK (btA f) 0 f.bts.length<;>simp
theorem J8 (K:List C→R):ai 2 (lim (ap8 aq.d2) ([.l (f.svs.map Sv.e),.i (f.svs.length:Nat),.i 0]++f.e++[.l []])) K=bif aK (svA f) 0 f.svs.length then K (f.e++[.l (tM f.svs f.svs.length)]) else some (.ret [.b false]):=by
 have hl:f.svs.length<big:=by have:=hz.2.1.1;simp only[big];omega
 have h:=eO (body:=ap8 aq.d2) (S:=fun i=>[.l (f.svs.map Sv.e),.i (f.svs.length:Nat),.i (i:Nat)]++f.e++[.l (tM f.svs i)]) (p:=svA f) (n:=f.svs.length) (b:=2) (ys:=f.e++[.l (tM f.svs f.svs.length)]) (r:=[.b false])
  (fun i hi=>by
   have hsz:=hz.2.1.2 _ (List.getElem_mem hi)
   have e3:((i:Int)<(f.svs.length:Int)):=by omega
   have hp:svA f i=(aS f.svs[i].name&&((i==0||match f.svs[i-1]? with|some q=>sLt q.name f.svs[i].name|none=>true)&&within f.svs[i].spare 0 60)):=by simp only[svA,List.getElem?_eq_getElem hi]<;>rfl
   simp only[Fl.e,jA,jB,apL,jC,jD,aq.d2,C.I_i,C.L_l,jW,jY,getD_map' Sv.e hi,w1 hi hl,e3,decide_true,jR,jX,hp,tM,List.getElem?_eq_getElem hi]
   simp only[Sv.e,jC,jD,fO _ hsz,ma,ad,jI,C.B_b,C.S_s]
   cases hn:aS f.svs[i].name with
   |false=>simp
   |true=>
    cases within f.svs[i].spare 0 60 with
    |false=>simp
    |true=>
     rcases Nat.eq_zero_or_pos i with h0|h0
     ·subst h0;simp
     ·have hi1:i-1<f.svs.length:=by omega
      have hw:w64 ((i:Int)-1)=((i-1:Nat):Int):=by rw[aP (by omega) (by simp only[big] at hl;omega)];omega
      have e1:((i:Int)>0):=by omega
      have e2:(((i-1:Nat):Int)<(f.svs.length:Int)):=by omega
      have e4:(i==0)=false:=by simp;omega
      have hn0:(f.svs[i-1].e.getD 0 .nil).S=f.svs[i-1].name:=rfl
      simp only[hw,jY,getD_map' Sv.e hi1,e1,e2,e4,decide_true,jR,jX,List.getElem?_eq_getElem hi1,Bool.false_or,jZ,ja,jS,Bool.true_and,hn0,sI]
      cases sLt f.svs[i-1].name f.svs[i].name<;>simp)
  (by simp[aq.d2,Fl.e]) f.svs.length 0 rfl
 simp only[Int.natCast_zero,tM] at h
 rw[h]
 cases aK (svA f) 0 f.svs.length<;>simp
theorem Ke (K:List C→R):ai 4 (lim (ap9 aq.d4) ([.l (f.cps.map Cp.e),.i (f.cps.length:Nat),.i 0]++f.e++[.l (tM f.svs f.svs.length),.l []])) K=bif aK (cpA f) 0 f.cps.length then K (f.e++[.l (rP f.cps f.cps.length)]) else some (.ret [.b false]):=by
 have hl:f.cps.length<big:=by have:=hz.2.2.1;simp only[big];omega
 have h:=eO (body:=ap9 aq.d4) (S:=fun i=>[.l (f.cps.map Cp.e),.i (f.cps.length:Nat),.i (i:Nat)]++f.e++[.l (tM f.svs f.svs.length),.l (rP f.cps i)]) (p:=cpA f) (n:=f.cps.length) (b:=4) (ys:=f.e++[.l (rP f.cps f.cps.length)]) (r:=[.b false])
  (fun i hi=>by
   have hsz:=hz.2.2.2 _ (List.getElem_mem hi)
   have e3:((i:Int)<(f.cps.length:Int)):=by omega
   have hp:cpA f i=(gI f.cps[i]&&(f.svs.any (fun s=>sEq s.name f.cps[i].svc)&&((i==0||match f.cps[i-1]? with|some q=>sLt q.name f.cps[i].name|none=>true)&&(sEq f.cps[i].at_ (mkS [])||f.bts.any (fun b=>sEq b.name f.cps[i].at_))))):=by simp only[cpA,List.getElem?_eq_getElem hi]<;>rfl
   have hbt:=mE f f.cps[i].at_ hz.1.1
   have hco:=zT f.cps[i] hsz
   have q1:(f.cps[i].at_.toList==(bs #[]).toList)=sEq f.cps[i].at_ (mkS []):=rfl
   have hb1:decide (bIx f f.cps[i].at_<0)=!f.bts.any (fun b=>sEq b.name f.cps[i].at_):=om _ _ _
   have hsm:=BQ f.svs f.cps[i].svc f.svs.length (Nat.le_refl _)
   rw[List.take_length] at hsm
   simp only[Fl.e,jA,jB] at hbt
   simp only[Cp.e] at hco
   simp only[Fl.e,jA,jB,apL,jC,jD,aq.d4,C.I_i,C.L_l,jW,jY,getD_map' Cp.e hi,e3,decide_true,jR,jX,hp]
   simp only[Cp.e,jC,jD,hco,hbt,ad,jI,C.B_b,C.S_s,C.I_i,q1,hb1,hsm]
   have hd3:∀(b:Bool),aq.d3 (.l (f.cps.map Cp.e)) (.i (f.cps.length:Nat)) (.i (i:Nat)) (.b b) (.b f.pack) (.l (f.bts.map Bt.e)) (.l (f.svs.map Sv.e)) (.l (f.cps.map Cp.e)) (.l (tM f.svs f.svs.length)) (.l (rP f.cps i)) (.s f.cps[i].name) (.s f.cps[i].svc) (.i f.cps[i].rank) (.i f.cps[i].born) (.i f.cps[i].room) (.i f.cps[i].hold) (.s f.cps[i].sel) (.l (f.cps[i].likes.map Lk.e)) (.i f.cps[i].apart) (.s f.cps[i].near) (.s f.cps[i].fixed) (.s f.cps[i].at_)=bif b then some (.ret [.b false]) else some (.again [.l (f.cps.map Cp.e),.i (f.cps.length:Nat),.i (i+1:Nat),.b f.pack,.l (f.bts.map Bt.e),.l (f.svs.map Sv.e),.l (f.cps.map Cp.e),.l (tM f.svs f.svs.length),.l (rP f.cps (i+1))]):=fun b=>by
    simp only[aq.d3,C.B_b,C.I_i,C.L_l,C.S_s,w1 hi hl,rP,List.getElem?_eq_getElem hi]
   cases gI f.cps[i] with
   |false=>simp[hd3]
   |true=>
    cases f.svs.any (fun s=>sEq s.name f.cps[i].svc) with
    |false=>simp[hd3]
    |true=>
     rcases Nat.eq_zero_or_pos i with h0|h0
     ·subst h0
      simp only[Int.natCast_zero] at hd3
      cases sEq f.cps[0].at_ (mkS [])<;>cases f.bts.any (fun b=>sEq b.name f.cps[0].at_)<;>simp[hd3]
     ·have hi1:i-1<f.cps.length:=by omega
      have hw:w64 ((i:Int)-1)=((i-1:Nat):Int):=by rw[aP (by omega) (by simp only[big] at hl;omega)];omega
      have e1:((i:Int)>0):=by omega
      have e2:(((i-1:Nat):Int)<(f.cps.length:Int)):=by omega
      have e4:(i==0)=false:=by simp;omega
      have hn0:(f.cps[i-1].e.getD 0 .nil).S=f.cps[i-1].name:=rfl
      simp only[hw,jY,getD_map' Cp.e hi1,e1,e2,e4,decide_true,jR,jX,List.getElem?_eq_getElem hi1,Bool.false_or,jZ,ja,jS,Bool.true_and,hn0,sI]
      cases sLt f.cps[i-1].name f.cps[i].name<;>cases sEq f.cps[i].at_ (mkS [])<;>cases f.bts.any (fun b=>sEq b.name f.cps[i].at_)<;>simp[hd3])
  (by simp[aq.d4,Fl.e]) f.cps.length 0 rfl
 simp only[Int.natCast_zero,rP] at h
 rw[h]
 cases aK (cpA f) 0 f.cps.length<;>simp
theorem J1 (K:List C→R):ai 6 (lim (ap8 aq.d5) ([.l (f.bts.map Bt.e),.i (f.bts.length:Nat),.i 0]++f.e++[.l (rP f.cps f.cps.length)])) K=bif aK (qX f) 0 f.bts.length then K [] else some (.ret [.b false]):=by
 have hl:f.bts.length<big:=by have:=hz.1.1;simp only[big];omega
 have hlc:f.cps.length<big:=by have:=hz.2.2.1;simp only[big];omega
 have h:=eO (body:=ap8 aq.d5) (S:=fun i=>[.l (f.bts.map Bt.e),.i (f.bts.length:Nat),.i (i:Nat)]++f.e++[.l (rP f.cps f.cps.length)]) (p:=qX f) (n:=f.bts.length) (b:=6) (ys:=[]) (r:=[.b false])
  (fun i hi=>by
   have e3:((i:Int)<(f.bts.length:Int)):=by omega
   have hq:qX f i=(decide ((used f f.bts[i].name).1≤f.bts[i].room)&&(decide ((used f f.bts[i].name).2≤f.bts[i].hold)&&decide (eC f.cps f.bts[i].name f.cps.length≤10))):=by simp[qX,hi]
   have hu:=wJ f f.bts[i].name hz
   have hmc:=wZ f.cps hlc f.bts[i].name f.cps.length (Nat.le_refl _)
   have g1:decide ((used f f.bts[i].name).1>f.bts[i].room)=!decide ((used f f.bts[i].name).1≤f.bts[i].room):=by rw[←decide_not,decide_eq_decide];omega
   have g2:decide ((used f f.bts[i].name).2>f.bts[i].hold)=!decide ((used f f.bts[i].name).2≤f.bts[i].hold):=by rw[←decide_not,decide_eq_decide];omega
   have g3:decide ((eC f.cps f.bts[i].name f.cps.length:Int)>10)=!decide (eC f.cps f.bts[i].name f.cps.length≤10):=by rw[←decide_not,decide_eq_decide];omega
   simp only[Fl.e,jA,jB] at hu
   simp only[Fl.e,jA,jB,apL,jC,jD,aq.d5,C.I_i,C.L_l,jW,jY,getD_map' Bt.e hi,e3,decide_true,jR,jX,w1 hi hl]
   simp only[Bt.e,jC,jD,hu,call2,jI,C.S_s,C.I_i,hmc,g1,g2,g3,hq,Bool.not_not]
   cases decide ((used f f.bts[i].name).1≤f.bts[i].room)<;>cases decide ((used f f.bts[i].name).2≤f.bts[i].hold)<;>cases decide (eC f.cps f.bts[i].name f.cps.length≤10)<;>simp)
  (by simp[aq.d5,Fl.e]) f.bts.length 0 rfl
 simp only[Int.natCast_zero] at h
 rw[h]
 cases aK (qX f) 0 f.bts.length<;>simp
theorem u6:aq f.e=some [.b (bP f)]:=by
 have h1:=Kp hz (ap4 aq.d9)
 have h2:=J8 hz (ap5 aq.d8)
 have h3:=Ke hz (ap5 aq.d7)
 have h4:=J1 hz (fun xs=>aq.d6)
 simp only[Fl.e,jA,jB] at h1 h2 h3 h4
 have g1:decide ((f.bts.length:Int)>12)=!decide (f.bts.length≤12):=by rw[←decide_not,decide_eq_decide];omega
 have g2:decide ((f.svs.length:Int)>30)=!decide (f.svs.length≤30):=by rw[←decide_not,decide_eq_decide];omega
 have g3:decide ((f.cps.length:Int)>60)=!decide (f.cps.length≤60):=by rw[←decide_not,decide_eq_decide];omega
 simp only[aq,aq.d10,Fl.e,apL,jC,jD,C.L_l,jW,g1,g2,g3,Bool.not_not,h1,bP]
 cases decide (f.bts.length≤12) with
 |false=>simp
 |true=>
 cases decide (f.svs.length≤30) with
 |false=>simp
 |true=>
 cases decide (f.cps.length≤60) with
 |false=>simp
 |true=>
 cases hb:aK (btA f) 0 f.bts.length with
 |false=>simp
 |true=>
 simp only[jR,jZ,jS,Bool.true_and,aq.d9,apL,jC,jD,C.L_l,jW,ao,h2]
 cases hs:aK (svA f) 0 f.svs.length with
 |false=>simp
 |true=>
 simp only[jR,Bool.true_and,aq.d8,apL,jC,jD,C.L_l,jW,ao,h3]
 cases hc:aK (cpA f) 0 f.cps.length with
 |false=>simp
 |true=>
 simp only[jR,Bool.true_and,aq.d7,apL,jC,jD,C.L_l,jW,h4]
 cases aK (qX f) 0 f.bts.length<;>simp[aq.d6]
end
end Go.Ev
namespace Go.Ev
theorem qd {α:Type} (p:α→Bool):∀(l:List α) (n:Nat),eA p l n<0∨∃i,∃h:i<l.length,eA p l n=((n+i:Nat):Int)∧p l[i]=true
 |[],n=>.inl (by simp[eA])
 |x::r,n=>by
  cases hx:p x with
  |true=>exact .inr ⟨0,by simp,by simp[eA,hx],by simpa using hx⟩
  |false=>
   rcases qd p r (n+1) with h|⟨i,h,h1,h2⟩
   ·exact .inl (by simpa [eA,hx] using h)
   ·exact .inr ⟨i+1,by simpa using h,by simp[eA,hx,h1];omega,by simpa using h2⟩
def JV (f:Fl) (g:List Str) (i:Nat):Bool:=match f.cps[(cIx f (sAt g i)).toNat]? with
 |some c=>decide (0≤cIx f (sAt g i))&&(!sEq c.at_ (mkS [])&&(i==0||sLt (sAt g (i-1)) (sAt g i)))
 |none=>false
def JQ (f:Fl) (g:List Str) (i:Nat):Str:=match f.cps[(cIx f (sAt g i)).toNat]? with
 |some c=>c.svc
 |none=>mkS []
def H9 (f:Fl) (g:List Str) (nm:Str):Nat→Nat
 |0=>0
 |i+1=>bif sEq (JQ f g i) nm then H9 f g nm i+1 else H9 f g nm i
def GV (l:List Cp) (nm:Str):Nat→Nat
 |0=>0
 |i+1=>match l[i]? with
  |some c=>bif sEq c.svc nm&&sEq c.at_ (mkS []) then GV l nm i+1 else GV l nm i
  |none=>GV l nm i
theorem Ge (b:Bool):yR [.b b]=some [.i (bif b then 1 else 0)]:=by cases b<;>rfl
def J4 (f:Fl) (g:List Str) (i:Nat):Bool:=match f.svs[i]? with
 |some s=>H9 f g s.name g.length==0||decide ((H9 f g s.name g.length:Int)≤s.spare-GV f.cps s.name f.cps.length)
 |none=>true
def JN (f:Fl) (g:List Str):Bool:=aK (JV f g) 0 g.length&&aK (J4 f g) 0 f.svs.length
section
variable {f:Fl} {g:List Str} (hz:f.Sz 1048576) (hg:BD 1048576 g)
include hz hg
omit hz in
end
end Go.Ev
namespace Go.Ev
def nE (k:Nat) (n v:Tok) (m:Str):Bool:=qy m&&(sEq (fS m) (mkS n)&&(k==1||sEq (gR m) (mkS v)))
def Tr.meets (ms:List Str):Tr→Bool
 |.lf k n v=>k==0||ms.any (nE k n v)
 |.un t=>!t.meets ms
 |.bn k a b=>bif k==4 then a.meets ms&&b.meets ms else a.meets ms||b.meets ms
def Tr.Ok (t:Tr):Prop:=t.Wf∨t=.lf 0 [] []
theorem BI (q:Nat→Bool):∀(k i:Nat),(!aK (fun j=>!q j) i k)=true↔∃j,i≤j∧j<i+k∧q j=true:=by
 intro k i
 rw[Bool.not_eq_true',←Bool.not_eq_true,dx]
 constructor
 ·intro h
  apply Classical.byContradiction
  intro hn
  exact h fun j h1 h2=>by
   cases hq:q j with
   |false=>rfl
   |true=>exact absurd ⟨j,h1,h2,hq⟩ hn
 ·rintro ⟨j,h1,h2,h3⟩ h
  have:=h j h1 h2
  rw[h3] at this;simp at this
theorem Bb (p:Str→Bool) (ms:List Str):aK (fun j=>!p (sAt ms j)) 0 ms.length=!ms.any p:=by
 rw[←Bool.not_not (b:=aK _ _ _)]
 congr 1
 rw[Bool.eq_iff_iff,BI,List.any_eq_true]
 constructor
 ·rintro ⟨j,_,h1,h2⟩
  have hj:j<ms.length:=by omega
  rw[gj hj] at h2
  exact ⟨_,List.getElem_mem hj,h2⟩
 ·rintro ⟨x,hx,h⟩
  obtain ⟨j,hj,rfl⟩:=List.getElem_of_mem hx
  exact ⟨j,Nat.zero_le _,by omega,by rw[gj hj];exact h⟩
section
variable {ms:List Str} (hz:BD 1048576 ms)
include hz
theorem IM (G:List C→Option (List C)) (k:Nat) (n v:Tok) (c:C) (K:List C→R):ai 1 (lim (ap6 (aX.d2 G)) [.l (ms.map sE),.i 0,.i (k:Nat),.s (mkS n),.s (mkS v),c]) K=bif ms.any (nE k n v) then some (.ret [.b true]) else K []:=by
 have hl:ms.length<big:=by have:=hz.1;simp only[big];omega
 have h:=eO (body:=ap6 (aX.d2 G)) (S:=fun i=>[.l (ms.map sE),.i (i:Nat),.i (k:Nat),.s (mkS n),.s (mkS v),c]) (p:=fun j=>!nE k n v (sAt ms j)) (n:=ms.length) (b:=1) (ys:=[]) (r:=[.b true])
  (fun i hi=>by
   have hsz:(sAt ms i).size≤1048576:=by rw[gj hi];exact hz.2 _ (List.getElem_mem hi)
   have e3:((i:Int)<(ms.length:Int)):=by omega
   have q1:((fS (sAt ms i)).toList==(mkS n).toList)=sEq (fS (sAt ms i)) (mkS n):=rfl
   have q2:((gR (sAt ms i)).toList==(mkS v).toList)=sEq (gR (sAt ms i)) (mkS v):=rfl
   have q3:(((k:Nat):Int)==1)=(k==1):=by rw[Bool.eq_iff_iff,beq_iff_eq,beq_iff_eq];omega
   simp only[apL,jC,jD,aX.d2,aX.d1,C.I_i,C.L_l,jW,jY,getD_map' sE hi,←gj hi,w1 hi hl,e3,decide_true,jR,jX]
   simp only[sE,jC,px _ hsz,call3,jI,C.S_s,jD,C.B_b,q1,q2,q3,nE]
   cases qy (sAt ms i)<;>cases sEq (fS (sAt ms i)) (mkS n)<;>cases k==1<;>cases sEq (gR (sAt ms i)) (mkS v)<;>simp[aX.d1,w1 hi hl])
  (by simp[aX.d2]) ms.length 0 rfl
 simp only[Int.natCast_zero,Bb] at h
 rw[h]
 cases ms.any (nE k n v)<;>simp
theorem IV (G:List C→Option (List C)) (k:Nat) (n v:Tok) (l:C) (K:List C→R):ai 1 (lim (ap4 (av.d2 G)) [.p [.i (k:Nat),.s (mkS n),.s (mkS v),l],.l (ms.map sE),.i (ms.length:Nat),.i 0]) K=bif ms.any (nE k n v) then some (.ret [.b true]) else K []:=by
 have hl:ms.length<big:=by have:=hz.1;simp only[big];omega
 have h:=eO (body:=ap4 (av.d2 G)) (S:=fun i=>[.p [.i (k:Nat),.s (mkS n),.s (mkS v),l],.l (ms.map sE),.i (ms.length:Nat),.i (i:Nat)]) (p:=fun j=>!nE k n v (sAt ms j)) (n:=ms.length) (b:=1) (ys:=[]) (r:=[.b true])
  (fun i hi=>by
   have hsz:(sAt ms i).size≤1048576:=by rw[gj hi];exact hz.2 _ (List.getElem_mem hi)
   have e3:((i:Int)<(ms.length:Int)):=by omega
   have q1:((fS (sAt ms i)).toList==(mkS n).toList)=sEq (fS (sAt ms i)) (mkS n):=rfl
   have q2:((gR (sAt ms i)).toList==(mkS v).toList)=sEq (gR (sAt ms i)) (mkS v):=rfl
   have q3:(((k:Nat):Int)==1)=(k==1):=by rw[Bool.eq_iff_iff,beq_iff_eq,beq_iff_eq];omega
   simp only[apL,jC,jD,av.d2,av.d1,C.I_i,C.L_l,jW,jY,getD_map' sE hi,←gj hi,w1 hi hl,e3,decide_true,jR,jX]
   simp only[sE,jC,vL _ hsz,call3,jI,C.S_s,jD,C.B_b,C.ui,C.P_p,C.I_i,jR,q1,q2,q3,nE]
   cases qy (sAt ms i)<;>cases sEq (fS (sAt ms i)) (mkS n)<;>cases k==1<;>cases sEq (gR (sAt ms i)) (mkS v)<;>simp[av.d1,w1 hi hl])
  (by simp[av.d2]) ms.length 0 rfl
 simp only[Int.natCast_zero,Bb] at h
 rw[h]
 cases ms.any (nE k n v)<;>simp
theorem vt:∀(k:Nat) (t:Tr),t.depth<k→t.Ok→av.g k 0 [t.enc,.l (ms.map sE)]=some [.b (t.meets ms)]
 |0,t,h,_=>by omega
 |k+1,t,h,hok=>by
  have hs:∀x,av.g (k+1) 0 x=av.step (av.g k 0) x:=fun _=>rfl
  rw[hs]
  simp only[av.step,av.d5,apL,jC,jD]
  cases t with
  |lf kd n v=>
   have hlf:=IV hz (av.g k 0) kd n v (.l []) (fun xs=>av.d3 (av.g k 0))
   have hk:kd=0∨kd=1∨kd=2:=by
    rcases hok with h|h
    ·rcases h.2 with ⟨h,_⟩|⟨h,_⟩
     ·exact .inr (.inl h)
     ·exact .inr (.inr h)
    ·simp only[Tr.lf.injEq] at h;exact .inl h.1
   simp only[Tr.enc,C.ui,jR,C.P_p,jC,C.I_i,Tr.meets]
   rcases hk with rfl|rfl|rfl
   ·simp[av.d4]
   ·simp only[av.d4,jJ,apL,jC,jD,C.B_b,C.L_l,jW,hlf,show (((1:Nat):Int)==1)=true from rfl,jR]
    cases ms.any (nE 1 n v)<;>simp[av.d3]
   ·simp only[av.d4,jJ,apL,jC,jD,C.B_b,C.L_l,jW,hlf,show (((2:Nat):Int)==1)=false from rfl,show (((2:Nat):Int)==2)=true from rfl,jR,jS]
    cases ms.any (nE 2 n v)<;>simp[av.d3]
  |un t=>
   simp only[Tr.depth] at h
   have hw:t.Ok:=by
    rcases hok with h|h
    ·exact .inl h
    ·simp at h
   have ih:=vt k t (by omega) hw
   simp[Tr.enc,av.d4,ih,ad,Tr.meets]
  |bn kd a b=>
   simp only[Tr.depth] at h
   have hw:(kd=4∨kd=5)∧a.Ok∧b.Ok:=by
    rcases hok with h|h
    ·exact ⟨h.1,.inl h.2.1,.inl h.2.2⟩
    ·simp at h
   have iha:=vt k a (by omega) hw.2.1
   have ihb:=vt k b (by omega) hw.2.2
   rcases hw.1 with rfl|rfl
   ·cases ha:a.meets ms<;>simp[Tr.enc,av.d4,iha,ihb,ad,Tr.meets,ha]
   ·cases ha:a.meets ms<;>simp[Tr.enc,av.d4,iha,ihb,ad,Tr.meets,ha]
theorem vh {N K:List (List C)} (hN:N.length≤1048576) (hK:K.length≤1048576):∀(k:Nat) (t:Tr) (o:Nat) (r r':List (List C)),t.depth<k→t.Ok→N.drop o=t.flat++r→K.drop o=t.kids o++r'→
  aX.g k 0 [.l N,.l K,.i (o+t.sz-1:Nat),.l (ms.map sE)]=some [.b (t.meets ms)]
 |0,t,o,r,r',h,_,_,_=>by omega
 |k+1,t,o,r,r',h,hok,hd,hd'=>by
  have hs:∀x,aX.g (k+1) 0 x=aX.step (aX.g k 0) x:=fun _=>rfl
  rw[hs]
  simp only[aX.step,aX.d4,apL,jC,jD,C.I_i,C.L_l,jY]
  cases t with
  |lf kd n v=>
   obtain ⟨h1,h2,_⟩:=drop_cons (show N.drop o=node kd n v 0::r from hd)
   have hlf:=IM hz (aX.g k 0) kd n v (.i ((0:Nat):Int)) (fun xs=>aX.d3 (aX.g k 0))
   have e:o+(Tr.lf kd n v).sz-1=o:=by simp[Tr.sz]
   have hg:N.getD o []=node kd n v 0:=by rw[List.getD_eq_getElem?_getD,List.getElem?_eq_getElem h1,h2];rfl
   have e1:((o:Int)<(N.length:Int)):=by omega
   have hk:kd=0∨kd=1∨kd=2:=by
    rcases hok with h|h
    ·rcases h.2 with ⟨h,_⟩|⟨h,_⟩
     ·exact .inr (.inl h)
     ·exact .inr (.inr h)
    ·simp only[Tr.lf.injEq] at h;exact .inl h.1
   simp only[e,hg,node,jC,jD,C.I_i,e1,decide_true,jR,jX,Tr.meets]
   rcases hk with rfl|rfl|rfl
   ·simp
   ·simp only[show (((1:Nat):Int)==0)=false from rfl,show (((1:Nat):Int)==3)=false from rfl,show (((1:Nat):Int)==4)=false from rfl,show (((1:Nat):Int)==5)=false from rfl,jS,hlf]
    cases ms.any (nE 1 n v)<;>simp[aX.d3]
   ·simp only[show (((2:Nat):Int)==0)=false from rfl,show (((2:Nat):Int)==3)=false from rfl,show (((2:Nat):Int)==4)=false from rfl,show (((2:Nat):Int)==5)=false from rfl,jS,hlf]
    cases ms.any (nE 2 n v)<;>simp[aX.d3]
  |un t=>
   simp only[Tr.depth] at h
   have hw:t.Ok:=by
    rcases hok with h|h
    ·exact .inl h
    ·simp at h
   have hn:N.drop o=t.flat++(node 3 [] [] 1::r):=by rw[hd];simp[Tr.flat]
   have hk:K.drop o=t.kids o++([.l [[.i (o+t.sz-1:Nat)]]]::r'):=by rw[hd'];simp[Tr.kids]
   have ih:=vh hN hK k t o _ _ (by omega) hw hn hk
   obtain ⟨h1,h2⟩:=iB hn
   obtain ⟨h3,h4⟩:=iB hk
   rw[t.bT] at h1
   rw[t.cI] at h3
   have h2:N[o+t.sz]=node 3 [] [] 1:=by simp only[t.bT] at h2;exact h2
   have h4:K[o+t.sz]=[.l [[.i (o+t.sz-1:Nat)]]]:=by simp only[t.cI] at h4;exact h4
   have e:o+(Tr.un t).sz-1=o+t.sz:=by simp[Tr.sz]
   have hg:N.getD (o+t.sz) []=node 3 [] [] 1:=by rw[List.getD_eq_getElem?_getD,List.getElem?_eq_getElem h1,h2];rfl
   have hg':K.getD (o+t.sz) []=[.l [[.i (o+t.sz-1:Nat)]]]:=by rw[List.getD_eq_getElem?_getD,List.getElem?_eq_getElem h3,h4];rfl
   have e1:(((o+t.sz:Nat):Int)<(N.length:Int)):=by omega
   have e2:(((o+t.sz:Nat):Int)<(K.length:Int)):=by omega
   simp only[e,hg,hg',node,jC,jD,C.I_i,C.L_l,e1,e2,decide_true,jR,jX,ih,ad,jI,C.B_b,Tr.meets]
   simp
  |bn kd a b=>
   simp only[Tr.depth] at h
   have hw:(kd=4∨kd=5)∧a.Ok∧b.Ok:=by
    rcases hok with h|h
    ·exact ⟨h.1,.inl h.2.1,.inl h.2.2⟩
    ·simp at h
   have hn:N.drop o=a.flat++(b.flat++(node kd [] [] 2::r)):=by rw[hd];simp[Tr.flat]
   have hn2:N.drop (o+a.sz)=b.flat++(node kd [] [] 2::r):=by rw[←List.drop_drop,hn,←a.bT];simp
   have hk:K.drop o=a.kids o++(b.kids (o+a.sz)++([.l [[.i (o+a.sz-1:Nat)],[.i (o+a.sz+b.sz-1:Nat)]]]::r')):=by rw[hd'];simp[Tr.kids]
   have hk2:K.drop (o+a.sz)=b.kids (o+a.sz)++([.l [[.i (o+a.sz-1:Nat)],[.i (o+a.sz+b.sz-1:Nat)]]]::r'):=by
    rw[←List.drop_drop,hk,←a.cI o];simp
   have iha:=vh hN hK k a o _ _ (by omega) hw.2.1 hn hk
   have ihb:=vh hN hK k b (o+a.sz) _ _ (by omega) hw.2.2 hn2 hk2
   obtain ⟨h1,h2⟩:=iB hn2
   obtain ⟨h3,h4⟩:=iB hk2
   rw[b.bT] at h1
   rw[b.cI] at h3
   have h2:N[o+a.sz+b.sz]=node kd [] [] 2:=by simp only[b.bT] at h2;exact h2
   have h4:K[o+a.sz+b.sz]=[.l [[.i (o+a.sz-1:Nat)],[.i (o+a.sz+b.sz-1:Nat)]]]:=by simp only[b.cI] at h4;exact h4
   have e:o+(Tr.bn kd a b).sz-1=o+a.sz+b.sz:=by simp only[Tr.sz];omega
   have hg:N.getD (o+a.sz+b.sz) []=node kd [] [] 2:=by rw[List.getD_eq_getElem?_getD,List.getElem?_eq_getElem h1,h2];rfl
   have hg':K.getD (o+a.sz+b.sz) []=[.l [[.i (o+a.sz-1:Nat)],[.i (o+a.sz+b.sz-1:Nat)]]]:=by rw[List.getD_eq_getElem?_getD,List.getElem?_eq_getElem h3,h4];rfl
   have e1:(((o+a.sz+b.sz:Nat):Int)<(N.length:Int)):=by omega
   have e2:(((o+a.sz+b.sz:Nat):Int)<(K.length:Int)):=by omega
   simp only[e,hg,hg',node,jC,jD,C.I_i,C.L_l,e1,e2,decide_true,jR,jX,iha,ihb,ad,jI,C.B_b,Tr.meets]
   rcases hw.1 with rfl|rfl
   ·cases a.meets ms<;>simp
   ·cases a.meets ms<;>simp
end
end Go.Ev
namespace Go.Ev
def PR.tr:PR→Option Tr
 |.err _=>none
 |.all=>some (.lf 0 [] [])
 |.tree t=>some t
theorem PR.Dp {p:PR} {t:Tr} (h:p.tr=some t):p.nodes=t.flat∧p.ptr=t.enc∧p.code=0:=by
 cases p with
 |err n=>simp[PR.tr] at h
 |all=>simp only[PR.tr,Option.some.injEq] at h;subst h;exact ⟨rfl,rfl,rfl⟩
 |tree u=>simp only[PR.tr,Option.some.injEq] at h;subst h;exact ⟨rfl,rfl,rfl⟩
theorem PR.Dh {p:PR} (h:p.tr=none):∃n,p=.err n:=by
 cases p with
 |err n=>exact ⟨n,rfl⟩
 |all=>simp[PR.tr] at h
 |tree u=>simp[PR.tr] at h
theorem DY (s:Str) {n:Nat} (h:pp s=.err n):n≠0:=by
 unfold pp at h
 split at h
 ·simp at h;omega
 ·split at h
  ·simp at h
  ·split at h
   ·split at h
    ·simp at h
    ·simp at h;omega
   ·simp at h;omega
theorem Ij {s:Str} {t:Tr} (h:(pp s).tr=some t):t.Ok∧t.sz≤200∧t.depth≤20:=by
 cases hp:pp s with
 |err n=>rw[hp] at h;simp[PR.tr] at h
 |all=>
  rw[hp] at h
  simp only[PR.tr,Option.some.injEq] at h
  subst h
  exact ⟨.inr rfl,by simp[Tr.sz],by simp[Tr.depth]⟩
 |tree u=>
  rw[hp] at h
  simp only[PR.tr,Option.some.injEq] at h
  subst h
  obtain ⟨h1,h2,h3⟩:=Hd hp
  exact ⟨.inl h1,h2,h3⟩
theorem Eu:aI [.l (Tr.lf 0 [] []).flat]=some [.b true]:=by
 have w0:w64 1=1:=aP (by omega) (by omega)
 have z0:within 0 0 5=true:=rfl
 have h0:ap2 aI.d4 [.i 0,.l (Tr.lf 0 [] []).flat]=some (.again [.i 1,.l (Tr.lf 0 [] []).flat]):=by
  simp[aI.d4,aI.d3,aI.d2,aI.d1,Tr.flat,node,fb,z0,ad,emp,eU,w0]
 have h1:ap2 aI.d4 [.i 1,.l (Tr.lf 0 [] []).flat]=some (.brk 0 []):=by
  simp[aI.d4,Tr.flat]
 have hk:=iL (.lf 0 [] []) (by simp[Tr.sz])
 have e:¬(((Tr.lf 0 [] []).flat.length:Int)>400):=by simp[Tr.flat]
 simp only[aI,aI.d6,apL,jC,C.L_l,e,decide_false,jS,hk,call2,jI,C.B_b,jZ]
 rw[aG h0,aQ h1]
 simp[aI.d5]
theorem AU (t:Tr) (ht:t.sz≤400) (ho:t.Ok):aI [.l t.flat]=some [.b true]:=by
 rcases ho with h|rfl
 ·exact uB t ht h
 ·exact Eu
theorem rV (t:Tr) (ht:t.sz≤400) (ho:t.Ok):fC [.l t.flat]=some [.b (decide (t.depth≤20))]:=by
 have hd:=t.lQ
 have hp:=t.rC
 have hF:=lk
 have hw1:w64 ((t.flat.length:Int)-1)=((0+t.sz-1:Nat):Int):=by rw[t.bT,aP (by omega) (by omega)];omega
 have hn:bm [.l (t.kids 0),.i (0+t.sz-1:Nat)]=some [.i (t.depth:Nat)]:=
  w7 (K:=t.kids 0) (by rw[t.cI];omega) ik t 0 [] (by omega) (by simp only[big];omega) (by simp)
 simp only[fC,fC.d1,apL,jC,jD,AU t ht ho,ad,call2,jI,C.B_b,jZ,jS,iL t (by omega),C.L_l,hw1,hn,C.I_i,jV]
 have:decide ((t.depth:Int)≤20)=decide (t.depth≤20):=by
  rw[decide_eq_decide];omega
 rw[this]
def Bl (z:Str):Str:=bs #[122,111,110,101,61]++z
def nM (b:Bt):List Str:=b.marks++[Bl b.zone]
def pg (s:Str) (b:Bt):Bool:=match (pp s).tr with
 |some t=>t.meets (nM b)
 |none=>false
theorem Eg (z:Str):(Bl z).size=5+z.size:=by
 unfold Bl
 rw[ByteArray.size_append];rfl
theorem ru {b:Bt} (hb:dq b=true):b.marks.length≤10∧b.zone.size≤20:=by
 simp only[dq,p9,aS,within,Bool.and_eq_true,decide_eq_true_eq] at hb
 omega
theorem yJ {b:Bt} (hz:b.Sz 1048576) (hb:dq b=true):BD 1048576 (nM b):=by
 obtain ⟨h1,h2⟩:=ru hb
 refine ⟨by simp[nM];omega,fun s hs=>?_⟩
 rcases List.mem_append.1 hs with hs|hs
 ·exact hz.2.2.2 s hs
 ·simp at hs;subst hs;rw[Eg];omega
theorem uQ (t:Tr) (ht:t.sz≤400) (ho:t.Ok) (hd:t.depth≤20) {ms:List Str} (hz:BD 1048576 ms):gk [.l t.flat,.l (ms.map sE)]=some [.b (t.meets ms)]:=by
 have hF:=lk
 have hp:=t.rC
 have hw1:w64 ((t.flat.length:Int)-1)=((0+t.sz-1:Nat):Int):=by rw[t.bT,aP (by omega) (by omega)];omega
 have hm:aX [.l t.flat,.l (t.kids 0),.i (0+t.sz-1:Nat),.l (ms.map sE)]=some [.b (t.meets ms)]:=
  vh hz (by rw[t.bT];omega) (by rw[t.cI];omega) ik t 0 [] [] (by omega) ho (by simp) (by simp)
 simp only[gk,gk.d1,apL,jC,jD,rV t ht ho,hd,decide_true,ad,call2,jI,C.B_b,jZ,jS,iL t (by omega),C.L_l,hw1,hm,jV]
theorem qM (s:Str) (b:Bt) (hs:s.size≤1048576) (hz:b.Sz 1048576) (hb:dq b=true):gT (.s s::b.e)=some [.b (pg s b)]:=by
 obtain ⟨z1,z2⟩:=ru hb
 have hm:jG b.e=some [.l ((nM b).map sE)]:=by
  have e1:b.marks.length≤4294967296:=by omega
  have e2:(bs #[122,111,110,101,61]).size+b.zone.size≤4294967296:=by
   have:(bs #[122,111,110,101,61]).size=5:=rfl
   omega
  have e3:b.marks.length+1≤4294967296:=by omega
  simp[jG,jG.d1,Bt.e,e1,e2,e3,nM,Bl,sE]
 simp only[Bt.e] at hm
 simp only[gT,gT.d1,Bt.e,apL,jC,jD,oO s hs,call2,jI,C.I_i,pg]
 cases ht:(pp s).tr with
 |none=>
  obtain ⟨n,hn⟩:=PR.Dh ht
  have hne:=DY s hn
  have e:((((PR.err n).code:Nat):Int)==0)=false:=by rw[beq_eq_false_iff_ne];simp only[PR.code];omega
  rw[hn]
  simp only[e,jS,jV]
 |some t=>
  obtain ⟨h1,h2,h3⟩:=PR.Dp ht
  obtain ⟨o1,o2,o3⟩:=Ij ht
  have hp:=uQ t (by omega) o1 o3 (yJ hz hb)
  rw[h1,h3]
  simp[hm,ad,hp]
theorem ur (s:Str) (b:Bt) (hs:s.size≤1048576) (hz:b.Sz 1048576) (hb:dq b=true):kb (.s s::b.e)=some [.b (pg s b)]:=by
 obtain ⟨z1,z2⟩:=ru hb
 have hF:=lk
 have e1:b.marks.length≤4294967296:=by omega
 have e2:(bs #[122,111,110,101,61]).size+b.zone.size≤4294967296:=by
  have:(bs #[122,111,110,101,61]).size=5:=rfl
  omega
 have e3:b.marks.length+1≤4294967296:=by omega
 have hmb:b.marks.map sE++[[.s (bs #[122,111,110,101,61]++b.zone)]]=(nM b).map sE:=by simp[nM,Bl,sE]
 simp only[kb,kb.d1,Bt.e,apL,jC,jD,o6 s hs,call2,jI,C.I_i,C.L_l,C.S_s,jW,rows,hmb,pg]
 cases ht:(pp s).tr with
 |none=>
  obtain ⟨n,hn⟩:=PR.Dh ht
  have hne:=DY s hn
  have e:((((PR.err n).code:Nat):Int)==0)=false:=by rw[beq_eq_false_iff_ne];simp only[PR.code];omega
  rw[hn]
  simp only[e,jS,jV]
 |some t=>
  obtain ⟨h1,h2,h3⟩:=PR.Dp ht
  obtain ⟨o1,o2,o3⟩:=Ij ht
  have hm:av [t.enc,.l ((nM b).map sE)]=some [.b (t.meets (nM b))]:=vt (yJ hz hb) ik t (by omega) o1
  rw[h2,h3]
  simp[e1,e2,e3,hm,ad]
end Go.Ev
namespace Go.Ev
def dN (f:Fl) (nm:Str):Str:=if bIx f nm<0 then mkS [] else match f.bts[(bIx f nm).toNat]? with
 |some b=>b.zone
 |none=>mkS []
theorem zR (f:Fl) (nm:Str):bIx f nm<0∨∃k,∃h:k<f.bts.length,bIx f nm=(k:Nat)∧sEq f.bts[k].name nm=true:=by
 rcases qd (fun x:Bt=>sEq x.name nm) f.bts 0 with h|⟨k,hk,h1,h2⟩
 ·exact .inl h
 ·exact .inr ⟨k,hk,by rw[←Nat.zero_add k];exact h1,h2⟩
theorem IZ (f:Fl) (nm:Str):cIx f nm<0∨∃k,∃h:k<f.cps.length,cIx f nm=(k:Nat)∧sEq f.cps[k].name nm=true:=by
 rcases qd (fun x:Cp=>sEq x.name nm) f.cps 0 with h|⟨k,hk,h1,h2⟩
 ·exact .inl h
 ·exact .inr ⟨k,hk,by rw[←Nat.zero_add k];exact h1,h2⟩
theorem mB (f:Fl) (nm:Str) (hz:f.Sz 1048576):gw (f.e++[.s nm])=some [.s (dN f nm)]:=by
 have hb:=k9 f nm hz.1.1
 simp only[Fl.e,jA,jB] at hb
 simp only[gw,gw.d1,Fl.e,jA,jB,apL,jC,jD,hb,ad,jI,C.I_i,C.L_l,jW,dN]
 rcases zR f nm with h|⟨k,hk,h1,_⟩
 ·simp[h,eU]
 ·have e5:¬((k:Int)<0):=by omega
  have e6:((k:Int)<(f.bts.length:Int)):=by omega
  have hg:f.bts[k].e.getD 1 .nil=.s f.bts[k].zone:=rfl
  simp only[h1,e5,e6,decide_true,decide_false,jR,jS,jX,jY,getD_map' Bt.e hk,hg,if_false,List.getElem?_eq_getElem hk,jV]
theorem wU (f:Fl) (nm:Str) (hz:f.Sz 1048576):mq (f.e++[.s nm])=some [.s (dN f nm)]:=by
 have hb:=mE f nm hz.1.1
 simp only[Fl.e,jA,jB] at hb
 simp only[mq,mq.d1,Fl.e,jA,jB,apL,jC,jD,hb,ad,jI,C.I_i,C.L_l,jW,dN]
 rcases zR f nm with h|⟨k,hk,h1,_⟩
 ·have e:¬(bIx f nm≥0):=by omega
  simp[h,e,eU]
 ·have e5:¬((k:Int)<0):=by omega
  have e7:((k:Int)≥0):=by omega
  have e6:((k:Int)<(f.bts.length:Int)):=by omega
  have hg:f.bts[k].e.getD 1 .nil=.s f.bts[k].zone:=rfl
  simp only[h1,e5,e6,e7,decide_true,jR,jX,jY,getD_map' Bt.e hk,hg,if_false,List.getElem?_eq_getElem hk,jV]
def oth (c x:Cp):Bool:=!sEq x.name c.name&&!sEq x.at_ (mkS [])
def lJ (l:List Lk) (b:Bt):Nat→Int
 |0=>0
 |i+1=>match l[i]? with
  |some x=>bif pg x.sel b then w64 (lJ l b i+x.w) else lJ l b i
  |none=>lJ l b i
def ka (f:Fl) (c:Cp) (b:Bt):Nat→Nat
 |0=>0
 |i+1=>match f.cps[i]? with
  |some x=>bif oth c x&&(sEq x.svc c.svc&&sEq (dN f x.at_) b.zone) then ka f c b i+1 else ka f c b i
  |none=>ka f c b i
def gS (f:Fl) (c:Cp) (b:Bt):Nat→Nat
 |0=>0
 |i+1=>match f.cps[i]? with
  |some x=>bif oth c x&&(sEq x.svc c.svc&&sEq x.at_ b.name) then gS f c b i+1 else gS f c b i
  |none=>gS f c b i
def pF (f:Fl) (c:Cp) (b:Bt):Nat→Int
 |0=>w64 (b.room-c.room)
 |i+1=>match f.cps[i]? with
  |some x=>bif oth c x&&sEq x.at_ b.name then w64 (pF f c b i-x.room) else pF f c b i
  |none=>pF f c b i
theorem rK (f:Fl) (c:Cp) (b:Bt):∀i,ka f c b i≤i
 |0=>Nat.le_refl _
 |i+1=>by
  have:=rK f c b i
  simp only[ka]
  split
  ·rename_i x _
   cases oth c x&&(sEq x.svc c.svc&&sEq (dN f x.at_) b.zone)<;>simp<;>omega
  ·omega
theorem qu (f:Fl) (c:Cp) (b:Bt):∀i,gS f c b i≤i
 |0=>Nat.le_refl _
 |i+1=>by
  have:=qu f c b i
  simp only[gS]
  split
  ·rename_i x _
   cases oth c x&&(sEq x.svc c.svc&&sEq x.at_ b.name)<;>simp<;>omega
  ·omega
def mz (f:Fl) (c:Cp) (b:Bt):List C:=[.i (lJ c.likes b c.likes.length),.i (ka f c b f.cps.length:Nat),.i (gS f c b f.cps.length:Nat),.i (pF f c b f.cps.length)]
section
variable {f:Fl} (hz:f.Sz 1048576) {c:Cp} (hc:c.Sz 1048576) {b:Bt} (hb:b.Sz 1048576) (hbo:dq b=true)
include hz hc hb hbo
theorem rG:aY (f.e++c.e++b.e)=some (mz f c b):=by
 have hl:c.likes.length<big:=by have:=hc.2.2.2.2.2.2.1;simp only[big];omega
 have hlc:f.cps.length<big:=by have:=hz.2.2.1;simp only[big];omega
 have L1:=cD (body:=rr aY.d1) (S:=fun i=>[C.i (i:Nat)]++f.e++c.e++b.e++[C.i 0,C.i 0,C.i 0,C.i 0,C.i (lJ c.likes b i),C.i 0,C.i 0,C.i (w64 (b.room-c.room))]) (n:=c.likes.length) (b:=0) (ys:=f.e++c.e++b.e++[C.i 0,C.i 0,C.i 0,C.i 0,C.i (lJ c.likes b c.likes.length),C.i 0,C.i 0,C.i (w64 (b.room-c.room))])
  (fun i hi=>by
   have hsz:=hc.2.2.2.2.2.2.2 _ (List.getElem_mem hi)
   have e3:((i:Int)<(c.likes.length:Int)):=by omega
   have hsel:=qM c.likes[i].sel b hsz hb hbo
   simp only[Bt.e] at hsel
   have g0:c.likes[i].e.getD 0 .nil=.s c.likes[i].sel:=rfl
   have g1:c.likes[i].e.getD 1 .nil=.i c.likes[i].w:=rfl
   simp only[Fl.e,Cp.e,Bt.e,jA,jB,apL,jC,jD,aY.d1,C.I_i,C.L_l,jW,jY,getD_map' Lk.e hi,g0,g1,e3,decide_true,jR,jX,w1 hi hl,hsel,ad,jI,C.B_b,lJ,List.getElem?_eq_getElem hi]
   cases pg c.likes[i].sel b<;>simp)
  (by simp[aY.d1,Fl.e,Cp.e,Bt.e]) c.likes.length 0 rfl
 have L2:=cD (body:=rr aY.d5) (S:=fun i=>[C.i (i:Nat)]++f.e++c.e++b.e++[C.i 0,C.i 0,C.i 0,C.i 0,C.i (lJ c.likes b c.likes.length),C.i ((ka f c b i:Nat):Int),C.i ((gS f c b i:Nat):Int),C.i (pF f c b i)]) (n:=f.cps.length) (b:=2) (ys:=[C.i 0,C.i 0,C.i 0,C.i 0]++mz f c b)
  (fun i hi=>by
   have e3:((i:Int)<(f.cps.length:Int)):=by omega
   have hw1:=sW (n:=ka f c b i) (by have:=rK f c b i;omega)
   have hw2:=sW (n:=gS f c b i) (by have:=qu f c b i;omega)
   have hzo:=mB f f.cps[i].at_ hz
   simp only[Fl.e,jA,jB] at hzo
   have q1:(f.cps[i].name.toList==c.name.toList)=sEq f.cps[i].name c.name:=rfl
   have q2:(f.cps[i].at_.toList==(bs #[]).toList)=sEq f.cps[i].at_ (mkS []):=rfl
   have q3:(f.cps[i].at_.toList==b.name.toList)=sEq f.cps[i].at_ b.name:=rfl
   have q4:(f.cps[i].svc.toList==c.svc.toList)=sEq f.cps[i].svc c.svc:=rfl
   have q5:((dN f f.cps[i].at_).toList==b.zone.toList)=sEq (dN f f.cps[i].at_) b.zone:=rfl
   simp only[Fl.e,Cp.e,Bt.e,jA,jB,apL,jC,jD,aY.d5,C.I_i,C.L_l,C.S_s,jW,jY,getD_map' Cp.e hi,e3,decide_true,jR,jX]
   simp only[Cp.e,jC,jD,C.S_s,C.I_i,q1,q2,q3,ka,gS,pF,List.getElem?_eq_getElem hi,oth]
   cases sEq f.cps[i].name c.name with
   |true=>simp[aY.d4,w1 hi hlc]
   |false=>
    cases sEq f.cps[i].at_ (mkS []) with
    |true=>simp[aY.d4,w1 hi hlc]
    |false=>
     cases h3:sEq f.cps[i].at_ b.name<;>cases h4:sEq f.cps[i].svc c.svc<;>cases h5:sEq (dN f f.cps[i].at_) b.zone<;>
      simp only[ja,jZ,jR,jS,Bool.true_and,Bool.false_and,Bool.and_true,Bool.and_false,jJ,jC,jD,aY.d3,aY.d2,C.S_s,C.I_i,q3,q4,q5,h3,h4,h5,hzo,ad,jI,aC,apL,aY.d4,w1 hi hlc,hw1,hw2])
  (by simp[aY.d5,Fl.e,Cp.e,Bt.e,mz]) f.cps.length 0 rfl
 simp only[Fl.e,Cp.e,Bt.e,jA,jB,Int.natCast_zero,lJ,ka,gS,pF,mz] at L1 L2
 simp only[aY,aY.d8,Fl.e,Cp.e,Bt.e,jA,jB,apL,jC,jD,C.I_i]
 rw[L1]
 simp only[aC,apL,jC,jD,aY.d7]
 rw[L2]
 simp[aY.d6,mz]
end
end Go.Ev
namespace Go.Ev
theorem CY {f:Fl} (h:bP f=true):∀b,b∈f.bts→dq b=true:=by
 intro b hb
 obtain ⟨i,hi,rfl⟩:=List.getElem_of_mem hb
 simp only[bP,Bool.and_eq_true] at h
 have:=(dx _ _ _).1 h.2.2.2.2.2.1 i (Nat.zero_le _) (by omega)
 simp only[btA,List.getElem?_eq_getElem hi,Bool.and_eq_true] at this
 exact this.1
theorem Es {f:Fl} (h:bP f=true):∀c,c∈f.cps→gI c=true:=by
 intro b hb
 obtain ⟨i,hi,rfl⟩:=List.getElem_of_mem hb
 simp only[bP,Bool.and_eq_true] at h
 have:=(dx _ _ _).1 h.2.2.2.2.1 i (Nat.zero_le _) (by omega)
 simp only[cpA,List.getElem?_eq_getElem hi,Bool.and_eq_true] at this
 exact this.1
structure VB (f:Fl):Prop where
 n60:f.cps.length≤60
 cb:∀x,x∈f.cps→(0≤x.room∧x.room≤1000)∧(0≤x.hold∧x.hold≤1000)∧(0≤x.apart∧x.apart≤2)∧(0≤x.rank∧x.rank≤100)∧(0≤x.born∧x.born≤1000000)
 bb:∀b,b∈f.bts→dq b=true
theorem lr {f:Fl} (h:VB f):∀b,b∈f.bts→dq b=true:=h.bb
theorem gU {f:Fl} (h:bP f=true):VB f:=by
 refine ⟨?_,fun x hx=>?_,CY h⟩
 ·simp only[bP,Bool.and_eq_true,decide_eq_true_eq] at h
  exact h.2.2.1
 ·have:=Es h x hx
  simp only[gI,within,Bool.and_eq_true,decide_eq_true_eq] at this
  exact ⟨this.2.2.2.1,this.2.2.2.2.1,this.2.2.2.2.2.2.1,this.2.1,this.2.2.1⟩
section
variable {f:Fl} (hz:f.Sz 1048576) {c:Cp} (hc:c.Sz 1048576) {b:Bt} (hb:b.Sz 1048576) (hbo:dq b=true)
include hz hc hb hbo
theorem A9:bW (f.e++c.e++b.e)=some (mz f c b):=by
 have hl:c.likes.length<big:=by have:=hc.2.2.2.2.2.2.1;simp only[big];omega
 have hlc:f.cps.length<big:=by have:=hz.2.2.1;simp only[big];omega
 have L1:=cD (body:=El bW.d1) (S:=fun i=>[C.l (c.likes.map Lk.e),C.i ((c.likes.length:Nat):Int),C.i (i:Nat)]++f.e++c.e++b.e++[C.i 0,C.i 0,C.i 0,C.i 0,C.i (lJ c.likes b i),C.i 0,C.i 0,C.i (w64 (b.room-c.room))]) (n:=c.likes.length) (b:=0) (ys:=f.e++c.e++b.e++[C.i 0,C.i 0,C.i 0,C.i 0,C.i (lJ c.likes b c.likes.length),C.i 0,C.i 0,C.i (w64 (b.room-c.room))])
  (fun i hi=>by
   have hsz:=hc.2.2.2.2.2.2.2 _ (List.getElem_mem hi)
   have e3:((i:Int)<(c.likes.length:Int)):=by omega
   have hsel:=ur c.likes[i].sel b hsz hb hbo
   simp only[Bt.e] at hsel
   have g0:c.likes[i].e.getD 0 .nil=.s c.likes[i].sel:=rfl
   have g1:c.likes[i].e.getD 1 .nil=.i c.likes[i].w:=rfl
   simp only[Fl.e,Cp.e,Bt.e,jA,jB,apL,jC,jD,bW.d1,C.I_i,C.L_l,jW,jY,getD_map' Lk.e hi,g0,g1,e3,decide_true,jR,jX,w1 hi hl,hsel,ad,jI,C.B_b,lJ,List.getElem?_eq_getElem hi]
   cases pg c.likes[i].sel b<;>simp)
  (by simp[bW.d1,Fl.e,Cp.e,Bt.e]) c.likes.length 0 rfl
 have L2:=cD (body:=El bW.d3) (S:=fun i=>[C.l (f.cps.map Cp.e),C.i ((f.cps.length:Nat):Int),C.i (i:Nat)]++f.e++c.e++b.e++[C.i 0,C.i 0,C.i 0,C.i 0,C.i (lJ c.likes b c.likes.length),C.i ((ka f c b i:Nat):Int),C.i ((gS f c b i:Nat):Int),C.i (pF f c b i)]) (n:=f.cps.length) (b:=2) (ys:=[C.i 0,C.i 0,C.i 0,C.i 0]++mz f c b)
  (fun i hi=>by
   have e3:((i:Int)<(f.cps.length:Int)):=by omega
   have hw1:=sW (n:=ka f c b i) (by have:=rK f c b i;omega)
   have hw2:=sW (n:=gS f c b i) (by have:=qu f c b i;omega)
   have hv1:w64 (((ka f c b i:Nat):Int)+0)=((ka f c b i:Nat):Int):=by have:=rK f c b i;simp only[big] at hlc;rw[aP (by omega) (by omega)];omega
   have hv2:w64 (((gS f c b i:Nat):Int)+0)=((gS f c b i:Nat):Int):=by have:=qu f c b i;simp only[big] at hlc;rw[aP (by omega) (by omega)];omega
   have hzo:=wU f f.cps[i].at_ hz
   simp only[Fl.e,jA,jB] at hzo
   have q1:(f.cps[i].name.toList==c.name.toList)=sEq f.cps[i].name c.name:=rfl
   have q2:(f.cps[i].at_.toList==(bs #[]).toList)=sEq f.cps[i].at_ (mkS []):=rfl
   have q3:(f.cps[i].at_.toList==b.name.toList)=sEq f.cps[i].at_ b.name:=rfl
   have q4:(f.cps[i].svc.toList==c.svc.toList)=sEq f.cps[i].svc c.svc:=rfl
   have q5:((dN f f.cps[i].at_).toList==b.zone.toList)=sEq (dN f f.cps[i].at_) b.zone:=rfl
   simp only[Fl.e,Cp.e,Bt.e,jA,jB,apL,jC,jD,bW.d3,C.I_i,C.L_l,C.S_s,jW,jY,getD_map' Cp.e hi,e3,decide_true,jR,jX]
   simp only[Cp.e,jC,jD,C.S_s,C.I_i,q1,q2,q3,q4,hzo,ka,gS,pF,List.getElem?_eq_getElem hi,oth]
   cases sEq f.cps[i].name c.name with
   |true=>simp[bW.d2,w1 hi hlc]
   |false=>
    cases sEq f.cps[i].at_ (mkS []) with
    |true=>simp[bW.d2,w1 hi hlc]
    |false=>
     cases h3:sEq f.cps[i].at_ b.name<;>cases h4:sEq f.cps[i].svc c.svc<;>cases h5:sEq (dN f f.cps[i].at_) b.zone<;>
      simp only[ja,jZ,jR,jS,Bool.true_and,Bool.false_and,Bool.and_true,Bool.and_false,Ge,ad,jI,jC,jD,C.S_s,C.I_i,q5,h5,aC,apL,bW.d2,w1 hi hlc,hw1,hw2,hv1,hv2])
  (by simp[bW.d3,Fl.e,Cp.e,Bt.e,mz]) f.cps.length 0 rfl
 simp only[Fl.e,Cp.e,Bt.e,jA,jB,Int.natCast_zero,lJ,ka,gS,pF,mz] at L1 L2
 simp only[bW,bW.d6,Fl.e,Cp.e,Bt.e,jA,jB,apL,jC,jD,C.I_i,C.L_l,jW]
 rw[L1]
 simp only[aC,apL,jC,jD,bW.d5,C.L_l,jW]
 rw[L2]
 simp[bW.d4,mz]
end
section
variable {f:Fl} (hz:f.Sz 1048576) (cn bn_:Str)
include hz
end
end Go.Ev
namespace Go.Ev
def F6 {α:Type} (p:α→Bool) (l:List α) (j:Nat):Bool:=match l[j]? with|some x=>p x|none=>false
theorem vJ {α:Type} (p:α→Bool) {l:List α} {j:Nat} (h:j<l.length):F6 p l j=p l[j]:=by simp[F6,h]
theorem Iz {α:Type} (p:α→Bool) (l:List α):aK (fun j=>!F6 p l j) 0 l.length=!l.any p:=by
 rw[←Bool.not_not (b:=aK _ _ _)]
 congr 1
 rw[Bool.eq_iff_iff,BI,List.any_eq_true]
 constructor
 ·rintro ⟨j,_,h1,h2⟩
  have hj:j<l.length:=by omega
  rw[vJ p hj] at h2
  exact ⟨_,List.getElem_mem hj,h2⟩
 ·rintro ⟨x,hx,h⟩
  obtain ⟨j,hj,rfl⟩:=List.getElem_of_mem hx
  exact ⟨j,Nat.zero_le _,by omega,by rw[vJ p hj];exact h⟩
def la {α:Type} (p:α→Bool) (l:List α) (i:Nat):Bool:=(l.take i).any p
theorem yy {α:Type} (p:α→Bool) {l:List α} {i:Nat} (h:i<l.length):la p l (i+1)=(la p l i||p l[i]):=by
 unfold la
 rw[List.take_succ_eq_append_getElem h,List.any_append]
 simp only[List.any_cons,List.any_nil,Bool.or_false]
theorem BT {α:Type} (p:α→Bool) (l:List α):la p l l.length=l.any p:=by simp[la]
def fp {α:Type} (p:α→Bool) (l:List α) (i:Nat):Nat:=(l.take i).countP p
theorem tO {α:Type} (p:α→Bool) {l:List α} {i:Nat} (h:i<l.length):fp p l (i+1)=fp p l i+(bif p l[i] then 1 else 0):=by
 simp only[fp,List.take_succ_eq_append_getElem h,List.countP_append,List.countP_cons,List.countP_nil]
 cases p l[i]<;>simp
theorem DL {α:Type} (p:α→Bool) (l:List α) (i:Nat):fp p l i≤i:=by
 have:=List.countP_le_length (p:=p) (l:=l.take i)
 simp only[fp,List.length_take] at*
 omega
def cy {α:Type} (p:α→Bool) (g:α→Int) (l:List α) (i:Nat):Int:=((l.take i).map fun x=>bif p x then g x else 0).sum
theorem nq {α:Type} (p:α→Bool) (g:α→Int) {l:List α} {i:Nat} (h:i<l.length):cy p g l (i+1)=cy p g l i+(bif p l[i] then g l[i] else 0):=by
 unfold cy
 rw[List.take_succ_eq_append_getElem h,List.map_append,List.sum_append]
 simp only[List.map_cons,List.map_nil,List.sum_cons,List.sum_nil,Int.add_zero]
theorem kP {α:Type} (p:α→Bool) (g:α→Int) {l:List α} (hl:∀x,x∈l→0≤g x∧g x≤1000):∀i,i≤l.length→0≤cy p g l i∧cy p g l i≤1000*i
 |0,_=>by simp[cy]
 |i+1,h=>by
  have ih:=kP p g hl i (by omega)
  have h2:=hl _ (List.getElem_mem (show i<l.length by omega))
  rw[nq p g (by omega)]
  cases p l[i]<;>simp only[jR,jS]<;>omega
def iH (f:Fl) (c:Cp) (b:Bt) (x:Cp):Bool:=oth c x&&(sEq x.svc c.svc&&(sEq x.at_ b.name&&(x.apart !=0||c.apart !=0)||sEq (dN f x.at_) b.zone&&(x.apart==2||c.apart==2)))
def iP (f:Fl) (c:Cp) (b:Bt) (x:Cp):Bool:=oth c x&&(sEq x.svc c.near&&sEq (dN f x.at_) b.zone)
def lZ (c:Cp) (s:Str) (x:Cp):Bool:=oth c x&&sEq x.svc s
def mH (f:Fl) (c:Cp) (b:Bt):Bool:=!sEq c.near (mkS [])&&(!f.cps.any (iP f c b)&&(f.cps.any (lZ c c.near)||!sEq c.near c.svc))
def onP (c:Cp) (b:Bt) (x:Cp):Bool:=oth c x&&sEq x.at_ b.name
def cS (f:Fl) (c:Cp) (b:Bt) (o:Bool):Nat:=
 bif b.shut&&!o then 1 else bif !sEq c.fixed (mkS [])&&!sEq c.fixed b.name then 2 else bif !pg c.sel b then 3 else bif f.cps.any (iH f c b) then 4 else bif mH f c b then 5 else
 bif decide (10≤fp (onP c b) f.cps f.cps.length) then 6 else bif decide (b.room<cy (onP c b) Cp.room f.cps f.cps.length+c.room) then 7 else bif decide (b.hold<cy (onP c b) Cp.hold f.cps f.cps.length+c.hold) then 8 else 0
theorem rM {b:Bt} (h:dq b=true) (s:Str) (hs:sEq s b.name=true):sEq s (mkS [])=false:=by
 cases h0:sEq s (mkS []) with
 |false=>rfl
 |true=>
  have e1:s=b.name:=by rw[bV] at hs;exact hs
  have e2:s=mkS []:=by rw[bV] at h0;exact h0
  rw[e2] at e1
  simp only[dq,Bool.and_eq_true] at h
  have h:=h.1
  rw[←e1] at h
  exact absurd h (by decide)
theorem kX {f:Fl} (h:VB f):∀x,x∈f.cps→0≤x.room∧x.room≤1000:=fun x hx=>(h.cb x hx).1
theorem kQ {f:Fl} (h:VB f):∀x,x∈f.cps→0≤x.hold∧x.hold≤1000:=fun x hx=>(h.cb x hx).2.1
theorem vS {f:Fl} (h:VB f):∀x,x∈f.cps→0≤x.apart∧x.apart≤2:=fun x hx=>(h.cb x hx).2.2.1
theorem wc {f:Fl} (h:VB f):f.cps.length≤60:=h.n60
end Go.Ev
namespace Go.Ev
section
variable {f:Fl} (hz:f.Sz 1048576) {c:Cp} (hc:c.Sz 1048576) {b:Bt} (hb:b.Sz 1048576) (hbo:dq b=true)
include hz hc hb hbo
theorem vg:bf (f.e++c.e++b.e)=some [.b (f.cps.any (iH f c b))]:=by
 have hlc:f.cps.length<big:=by have:=hz.2.2.1;simp only[big];omega
 have h:=eO (body:=Eh bf.d3) (S:=fun i=>[C.i (i:Nat)]++f.e++c.e++b.e) (p:=fun j=>!F6 (iH f c b) f.cps j) (n:=f.cps.length) (b:=0) (ys:=[]) (r:=[.b true])
  (fun i hi=>by
   have e3:((i:Int)<(f.cps.length:Int)):=by omega
   have hzo:=mB f f.cps[i].at_ hz
   simp only[Fl.e,jA,jB] at hzo
   have q1:(f.cps[i].name.toList==c.name.toList)=sEq f.cps[i].name c.name:=rfl
   have q2:(f.cps[i].at_.toList==(bs #[]).toList)=sEq f.cps[i].at_ (mkS []):=rfl
   have q3:(f.cps[i].at_.toList==b.name.toList)=sEq f.cps[i].at_ b.name:=rfl
   have q4:(f.cps[i].svc.toList==c.svc.toList)=sEq f.cps[i].svc c.svc:=rfl
   have q5:((dN f f.cps[i].at_).toList==b.zone.toList)=sEq (dN f f.cps[i].at_) b.zone:=rfl
   simp only[vJ _ hi,iH,oth]
   simp only[Fl.e,Cp.e,Bt.e,jA,jB,apL,jC,jD,bf.d3,C.I_i,C.L_l,C.S_s,jW,jY,getD_map' Cp.e hi,e3,decide_true,jR,jX]
   simp only[Cp.e,jC,jD,C.S_s,C.I_i,q1,q2,q3,q4]
   cases sEq f.cps[i].name c.name with
   |true=>simp[bf.d2,w1 hi hlc]
   |false=>
    cases sEq f.cps[i].svc c.svc with
    |false=>simp[bf.d2,w1 hi hlc]
    |true=>
     cases sEq f.cps[i].at_ (mkS []) with
     |true=>simp[bf.d2,w1 hi hlc]
     |false=>
      cases h3:sEq f.cps[i].at_ b.name<;>cases h4:f.cps[i].apart !=0<;>cases h5:c.apart !=0<;>cases h6:sEq (dN f f.cps[i].at_) b.zone<;>cases h7:f.cps[i].apart==2<;>cases h8:c.apart==2<;>
       simp only[ja,jZ,jR,jS,Bool.true_and,Bool.false_and,Bool.and_true,Bool.and_false,Bool.or_true,Bool.or_false,Bool.false_or,Bool.true_or,jJ,uv,uw,jC,jD,bf.d1,C.S_s,C.I_i,q5,h6,h7,h8,hzo,ad,jI,aC,apL,bf.d2,w1 hi hlc])
  (by simp[bf.d3,Fl.e,Cp.e,Bt.e]) f.cps.length 0 rfl
 simp only[Fl.e,Cp.e,Bt.e,jA,jB,Int.natCast_zero,Iz] at h
 simp only[bf,bf.d5,Fl.e,Cp.e,Bt.e,jA,jB,apL,jC,jD]
 rw[h]
 cases f.cps.any (iH f c b)<;>simp[bf.d4]
theorem B4:eI (f.e++c.e++b.e)=some [.b (mH f c b)]:=by
 have hlc:f.cps.length<big:=by have:=hz.2.2.1;simp only[big];omega
 have h:=eO (body:=xc eI.d2) (S:=fun i=>[C.b (la (lZ c c.near) f.cps i),C.i (i:Nat)]++f.e++c.e++b.e) (p:=fun j=>!F6 (iP f c b) f.cps j) (n:=f.cps.length) (b:=0) (ys:=.b (la (lZ c c.near) f.cps f.cps.length)::c.e) (r:=[.b false])
  (fun i hi=>by
   have e3:((i:Int)<(f.cps.length:Int)):=by omega
   have hzo:=mB f f.cps[i].at_ hz
   simp only[Fl.e,jA,jB] at hzo
   have q1:(f.cps[i].name.toList==c.name.toList)=sEq f.cps[i].name c.name:=rfl
   have q2:(f.cps[i].at_.toList==(bs #[]).toList)=sEq f.cps[i].at_ (mkS []):=rfl
   have q4:(f.cps[i].svc.toList==c.near.toList)=sEq f.cps[i].svc c.near:=rfl
   have q5:((dN f f.cps[i].at_).toList==b.zone.toList)=sEq (dN f f.cps[i].at_) b.zone:=rfl
   simp only[vJ _ hi,iP,oth,yy _ hi]
   generalize la (lZ c c.near) f.cps i=q
   simp only[Fl.e,Cp.e,Bt.e,jA,jB,apL,jC,jD,eI.d2,C.I_i,C.L_l,C.S_s,jW,jY,getD_map' Cp.e hi,e3,decide_true,jR,jX,lZ,oth]
   simp only[Cp.e,jC,jD,C.S_s,C.I_i,q1,q2,q4]
   cases sEq f.cps[i].name c.name with
   |true=>simp[eI.d1,w1 hi hlc]
   |false=>
    cases sEq f.cps[i].svc c.near with
    |false=>simp[eI.d1,w1 hi hlc]
    |true=>
     cases sEq f.cps[i].at_ (mkS []) with
     |true=>simp[eI.d1,w1 hi hlc]
     |false=>cases h6:sEq (dN f f.cps[i].at_) b.zone<;>simp[eI.d1,w1 hi hlc,hzo,ad,q5,h6])
  (by simp[eI.d2,Fl.e,Cp.e,Bt.e]) f.cps.length 0 rfl
 have h0:la (lZ c c.near) f.cps 0=false:=by simp[la]
 have q0:(c.near.toList==(bs #[]).toList)=sEq c.near (mkS []):=rfl
 have q1:(c.near.toList==c.svc.toList)=sEq c.near c.svc:=rfl
 simp only[Fl.e,Cp.e,Bt.e,jA,jB,Int.natCast_zero,Iz,h0,BT] at h
 simp only[eI,eI.d4,Fl.e,Cp.e,Bt.e,jA,jB,apL,jC,jD,C.S_s,q0,mH]
 rw[h]
 cases sEq c.near (mkS [])<;>cases f.cps.any (iP f c b)<;>cases f.cps.any (lZ c c.near)<;>simp[eI.d3,q1]
theorem um (hv:VB f) (hr:0≤c.room∧c.room≤1000) (hh:0≤c.hold∧c.hold≤1000) (o:Bool):cG (f.e++c.e++b.e++[.b o])=some [.i (cS f c b o:Nat)]:=by
 have hlc:f.cps.length<big:=by have:=hz.2.2.1;simp only[big];omega
 have h60:=wc hv
 have h:=cD (body:=Fp cG.d2) (S:=fun i=>[C.b o,C.i (cy (onP c b) Cp.room f.cps i+c.room),C.i (cy (onP c b) Cp.hold f.cps i+c.hold),C.i (fp (onP c b) f.cps i:Nat),C.i (i:Nat)]++f.e++c.e++b.e) (n:=f.cps.length) (b:=0)
  (ys:=[C.b o,C.i (cy (onP c b) Cp.room f.cps f.cps.length+c.room),C.i (cy (onP c b) Cp.hold f.cps f.cps.length+c.hold),C.i (fp (onP c b) f.cps f.cps.length:Nat)]++f.e++c.e++b.e)
  (fun i hi=>by
   have e3:((i:Int)<(f.cps.length:Int)):=by omega
   have q1:(f.cps[i].name.toList==c.name.toList)=sEq f.cps[i].name c.name:=rfl
   have q3:(f.cps[i].at_.toList==b.name.toList)=sEq f.cps[i].at_ b.name:=rfl
   have b1:=kP (onP c b) Cp.room (kX hv) i (by omega)
   have b2:=kP (onP c b) Cp.hold (kQ hv) i (by omega)
   have b3:=DL (onP c b) f.cps i
   have b4:=kX hv _ (List.getElem_mem hi)
   have b5:=kQ hv _ (List.getElem_mem hi)
   have w2:w64 (cy (onP c b) Cp.room f.cps i+c.room+f.cps[i].room)=cy (onP c b) Cp.room f.cps i+f.cps[i].room+c.room:=by rw[aP (by omega) (by omega)];omega
   have w3:w64 (cy (onP c b) Cp.hold f.cps i+c.hold+f.cps[i].hold)=cy (onP c b) Cp.hold f.cps i+f.cps[i].hold+c.hold:=by rw[aP (by omega) (by omega)];omega
   have w4:=sW (n:=fp (onP c b) f.cps i) (by omega)
   have hon:onP c b f.cps[i]=(!sEq f.cps[i].name c.name&&sEq f.cps[i].at_ b.name):=by
    unfold onP oth
    cases h3:sEq f.cps[i].at_ b.name with
    |true=>rw[rM hbo _ h3];simp
    |false=>simp
   simp only[Fl.e,Cp.e,Bt.e,jA,jB,apL,jC,jD,cG.d2,C.I_i,C.L_l,C.S_s,jW,jY,getD_map' Cp.e hi,e3,decide_true,jR,jX,nq _ _ hi,tO _ hi,hon]
   simp only[Cp.e,jC,jD,C.S_s,C.I_i,q1,q3]
   cases sEq f.cps[i].name c.name<;>cases sEq f.cps[i].at_ b.name<;>simp[cG.d1,w1 hi hlc,w2,w3,w4])
  (by simp[cG.d2,Fl.e,Cp.e,Bt.e]) f.cps.length 0 rfl
 have z1:cy (onP c b) Cp.room f.cps 0=0:=by simp[cy]
 have z2:cy (onP c b) Cp.hold f.cps 0=0:=by simp[cy]
 have z3:fp (onP c b) f.cps 0=0:=by simp[fp]
 have hsel:=qM c.sel b hc.2.2.1 hb hbo
 have hT:=vg hz hc hb hbo
 have hF:=B4 hz hc hb hbo
 have q0:(c.fixed.toList==(bs #[]).toList)=sEq c.fixed (mkS []):=rfl
 have q1:(c.fixed.toList==b.name.toList)=sEq c.fixed b.name:=rfl
 simp only[Fl.e,Cp.e,Bt.e,jA,jB,Int.natCast_zero,z1,z2,z3,Int.zero_add] at h hsel hT hF
 simp only[cG,cG.d6,Fl.e,Cp.e,Bt.e,jA,jB,apL,jC,jD]
 rw[h]
 have e6:(10:Int)≤((fp (onP c b) f.cps f.cps.length:Nat):Int)↔10≤fp (onP c b) f.cps f.cps.length:=by omega
 simp only[aC,apL,jC,jD,cG.d5,C.B_b,cS]
 have fin:∀e:Bool,cG.d3 (.i (cy (onP c b) Cp.room f.cps f.cps.length+c.room)) (.i (cy (onP c b) Cp.hold f.cps f.cps.length+c.hold)) (.i (fp (onP c b) f.cps f.cps.length:Nat)) (.b e) (.b f.pack) (.l (f.bts.map Bt.e)) (.l (f.svs.map Sv.e)) (.l (f.cps.map Cp.e))
   (.s c.name) (.s c.svc) (.i c.rank) (.i c.born) (.i c.room) (.i c.hold) (.s c.sel) (.l (c.likes.map Lk.e)) (.i c.apart) (.s c.near) (.s c.fixed) (.s c.at_) (.s b.name) (.s b.zone) (.l (b.marks.map sE)) (.i b.room) (.i b.hold) (.b b.shut)=
   some (.ret [.i (((bif e then 2 else bif !pg c.sel b then 3 else bif f.cps.any (iH f c b) then 4 else bif mH f c b then 5 else
 bif decide (10≤fp (onP c b) f.cps f.cps.length) then 6 else bif decide (b.room<cy (onP c b) Cp.room f.cps f.cps.length+c.room) then 7 else bif decide (b.hold<cy (onP c b) Cp.hold f.cps f.cps.length+c.hold) then 8 else 0:Nat):Nat):Int)]):=by
  intro e
  simp only[cG.d3,C.B_b,C.I_i,hsel,hT,hF,ad,jI,jC,ge_iff_le,e6,gt_iff_lt]
  cases e
  ·simp only[jS]
   cases pg c.sel b
   ·rfl
   ·simp only[jZ,jS]
    cases f.cps.any (iH f c b)
    ·simp only[jS]
     cases mH f c b
     ·simp only[jS]
      cases decide (10≤fp (onP c b) f.cps f.cps.length)
      ·simp only[jS]
       cases decide (b.room<cy (onP c b) Cp.room f.cps f.cps.length+c.room)
       ·simp only[jS]
        cases decide (b.hold<cy (onP c b) Cp.hold f.cps f.cps.length+c.hold)<;>rfl
       ·rfl
      ·rfl
     ·rfl
    ·rfl
  ·rfl
 generalize (bif !pg c.sel b then 3 else bif f.cps.any (iH f c b) then 4 else bif mH f c b then 5 else
 bif decide (10≤fp (onP c b) f.cps f.cps.length) then 6 else bif decide (b.room<cy (onP c b) Cp.room f.cps f.cps.length+c.room) then 7 else bif decide (b.hold<cy (onP c b) Cp.hold f.cps f.cps.length+c.hold) then 8 else 0:Nat)=N at fin⊢
 cases hs:b.shut<;>rw[hs] at fin<;>cases o<;>cases h1:sEq c.fixed (mkS [])<;>cases h2:sEq c.fixed b.name<;>
  simp only[cG.d4,q0,q1,h1,h2,fin,C.B_b,C.S_s,jR,jS,jZ,ja,Bool.and_true,Bool.and_false,Bool.true_and,Bool.false_and,jJ,apL,jC,jD,jV]<;>rfl
end
end Go.Ev
namespace Go.Ev
section
variable {f:Fl} (hz:f.Sz 1048576) {c:Cp} (hc:c.Sz 1048576) {b:Bt} (hb:b.Sz 1048576) (hbo:dq b=true)
include hz hc hb hbo
theorem AH (hv:VB f) (hr:0≤c.room∧c.room≤1000) (hh:0≤c.hold∧c.hold≤1000) (ha:0≤c.apart∧c.apart≤2):lim (rr bK.d4) ([C.b false,C.b false,C.i 0,C.i 0,C.i 0,C.b false,C.l (f.cps.map Cp.e),C.i ((f.cps.length:Nat):Int),C.i 0]++f.e++c.e++b.e)=
  some (.brk 0 ([C.b (la (iP f c b) f.cps f.cps.length),C.b (la (lZ c c.svc) f.cps f.cps.length),C.i (fp (onP c b) f.cps f.cps.length:Nat),C.i (cy (onP c b) Cp.room f.cps f.cps.length),C.i (cy (onP c b) Cp.hold f.cps f.cps.length),C.b (la (iH f c b) f.cps f.cps.length)]++c.e++b.e)):=by
 have hlc:f.cps.length<big:=by have:=hz.2.2.1;simp only[big];omega
 have h60:=wc hv
 have h:=cD (body:=rr bK.d4) (S:=fun i=>[C.b (la (iP f c b) f.cps i),C.b (la (lZ c c.svc) f.cps i),C.i (fp (onP c b) f.cps i:Nat),C.i (cy (onP c b) Cp.room f.cps i),C.i (cy (onP c b) Cp.hold f.cps i),C.b (la (iH f c b) f.cps i),C.l (f.cps.map Cp.e),C.i ((f.cps.length:Nat):Int),C.i (i:Nat)]++f.e++c.e++b.e) (n:=f.cps.length) (b:=0)
  (ys:=[C.b (la (iP f c b) f.cps f.cps.length),C.b (la (lZ c c.svc) f.cps f.cps.length),C.i (fp (onP c b) f.cps f.cps.length:Nat),C.i (cy (onP c b) Cp.room f.cps f.cps.length),C.i (cy (onP c b) Cp.hold f.cps f.cps.length),C.b (la (iH f c b) f.cps f.cps.length)]++c.e++b.e)
  (fun i hi=>by
   have e3:((i:Int)<(f.cps.length:Int)):=by omega
   have hzo:=wU f f.cps[i].at_ hz
   simp only[Fl.e,jA,jB] at hzo
   have q1:(f.cps[i].name.toList==c.name.toList)=sEq f.cps[i].name c.name:=rfl
   have q2:(f.cps[i].at_.toList==(bs #[]).toList)=sEq f.cps[i].at_ (mkS []):=rfl
   have q3:(f.cps[i].at_.toList==b.name.toList)=sEq f.cps[i].at_ b.name:=rfl
   have q4:(f.cps[i].svc.toList==c.svc.toList)=sEq f.cps[i].svc c.svc:=rfl
   have q6:(f.cps[i].svc.toList==c.near.toList)=sEq f.cps[i].svc c.near:=rfl
   have q5:((dN f f.cps[i].at_).toList==b.zone.toList)=sEq (dN f f.cps[i].at_) b.zone:=rfl
   have b1:=kP (onP c b) Cp.room (kX hv) i (by omega)
   have b2:=kP (onP c b) Cp.hold (kQ hv) i (by omega)
   have b3:=DL (onP c b) f.cps i
   have b4:=kX hv _ (List.getElem_mem hi)
   have b5:=kQ hv _ (List.getElem_mem hi)
   have b6:=vS hv _ (List.getElem_mem hi)
   have w2:w64 (cy (onP c b) Cp.room f.cps i+f.cps[i].room)=cy (onP c b) Cp.room f.cps i+f.cps[i].room:=by rw[aP (by omega) (by omega)]
   have w3:w64 (cy (onP c b) Cp.hold f.cps i+f.cps[i].hold)=cy (onP c b) Cp.hold f.cps i+f.cps[i].hold:=by rw[aP (by omega) (by omega)]
   have w4:=sW (n:=fp (onP c b) f.cps i) (by omega)
   have w5:decide (w64 (c.apart+f.cps[i].apart)>0)=(f.cps[i].apart !=0||c.apart !=0):=by
    rw[aP (by omega) (by omega),Bool.eq_iff_iff,decide_eq_true_eq,Bool.or_eq_true,bne_iff_ne,bne_iff_ne];omega
   simp only[yy _ hi,nq _ _ hi,tO _ hi]
   generalize la (iP f c b) f.cps i=A1
   generalize la (lZ c c.svc) f.cps i=A2
   generalize la (iH f c b) f.cps i=A3
   generalize cy (onP c b) Cp.room f.cps i=A4 at w2
   generalize cy (onP c b) Cp.hold f.cps i=A5 at w3
   generalize fp (onP c b) f.cps i=A6 at w4
   simp only[Fl.e,Cp.e,Bt.e,jA,jB,apL,jC,jD,bK.d4,C.I_i,C.L_l,C.S_s,jW,jY,getD_map' Cp.e hi,e3,decide_true,jR,jX,iP,lZ,iH,onP,oth]
   simp only[Cp.e,jC,jD,C.S_s,C.I_i,C.B_b,q1,q2,q3,q4,q5,w5,hzo,ad,jI]
   cases sEq f.cps[i].name c.name with
   |true=>simp[bK.d3,w1 hi hlc]
   |false=>
    cases sEq f.cps[i].at_ (mkS []) with
    |true=>simp[bK.d3,w1 hi hlc]
    |false=>
     simp only[ja,jR,jS,Bool.true_and]
     have fin:∀(t:Bool) (n:Bool),ai 1 (bK.d2 (.b A1) (.b n) (.i (A6:Nat)) (.i A4) (.i A5) (.b t) (.b (sEq (dN f f.cps[i].at_) b.zone)) (.l (f.cps.map Cp.e)) (.i (f.cps.length:Nat)) (.i (i:Nat)) (.b f.pack) (.l (f.bts.map Bt.e)) (.l (f.svs.map Sv.e)) (.l (f.cps.map Cp.e))
       (.s c.name) (.s c.svc) (.i c.rank) (.i c.born) (.i c.room) (.i c.hold) (.s c.sel) (.l (c.likes.map Lk.e)) (.i c.apart) (.s c.near) (.s c.fixed) (.s c.at_) (.s b.name) (.s b.zone) (.l (b.marks.map sE)) (.i b.room) (.i b.hold) (.b b.shut)
       (.s f.cps[i].name) (.s f.cps[i].svc) (.i f.cps[i].rank) (.i f.cps[i].born) (.i f.cps[i].room) (.i f.cps[i].hold) (.s f.cps[i].sel) (.l (f.cps[i].likes.map Lk.e)) (.i f.cps[i].apart) (.s f.cps[i].near) (.s f.cps[i].fixed) (.s f.cps[i].at_)) (rr bK.d3)=
       some (.again [.b (A1||(sEq f.cps[i].svc c.near&&sEq (dN f f.cps[i].at_) b.zone)),.b n,.i ((A6+(bif sEq f.cps[i].at_ b.name then 1 else 0):Nat):Int),.i (A4+(bif sEq f.cps[i].at_ b.name then f.cps[i].room else 0)),.i (A5+(bif sEq f.cps[i].at_ b.name then f.cps[i].hold else 0)),.b t,.l (f.cps.map Cp.e),.i (f.cps.length:Nat),.i ((i+1:Nat):Int),.b f.pack,.l (f.bts.map Bt.e),.l (f.svs.map Sv.e),.l (f.cps.map Cp.e),
       .s c.name,.s c.svc,.i c.rank,.i c.born,.i c.room,.i c.hold,.s c.sel,.l (c.likes.map Lk.e),.i c.apart,.s c.near,.s c.fixed,.s c.at_,.s b.name,.s b.zone,.l (b.marks.map sE),.i b.room,.i b.hold,.b b.shut]):=by
      intro t n
      simp only[bK.d2,C.B_b,C.S_s,q6]
      cases A1<;>cases sEq f.cps[i].svc c.near<;>cases sEq (dN f f.cps[i].at_) b.zone<;>cases h3:sEq f.cps[i].at_ b.name<;>
       simp only[ja,jZ,jR,jS,jJ,jC,jD,bK.d1,C.S_s,C.I_i,q3,h3,aC,apL,bK.d3,w1 hi hlc,w2,w3,w4,Bool.or_true,Bool.or_false,Bool.and_true,Bool.and_false,Bool.true_and,Bool.false_and,Int.add_zero,Nat.add_zero]
     cases h4:sEq f.cps[i].svc c.svc with
     |false=>simp only[jS,Bool.false_and,Bool.or_false,jJ,jC,jD,fin]
     |true=>
      have fin':=fun t:Bool=>fin t true
      cases A3<;>cases h3:sEq f.cps[i].at_ b.name<;>rw[h3] at fin'<;>cases hA:(f.cps[i].apart !=0||c.apart !=0)<;>cases h6:sEq (dN f f.cps[i].at_) b.zone<;>rw[h6] at fin'<;>cases h8:c.apart==2<;>
       simp only[ja,jZ,jR,jS,Bool.true_and,Bool.false_and,Bool.and_true,Bool.and_false,Bool.or_true,Bool.or_false,Bool.false_or,Bool.true_or,jJ,jC,jD,fin'])
  (by simp[bK.d4,Fl.e,Cp.e,Bt.e]) f.cps.length 0 rfl
 have z1:cy (onP c b) Cp.room f.cps 0=0:=by simp[cy]
 have z2:cy (onP c b) Cp.hold f.cps 0=0:=by simp[cy]
 have z3:fp (onP c b) f.cps 0=0:=by simp[fp]
 have z4:∀p:Cp→Bool,la p f.cps 0=false:=by simp[la]
 simp only[Int.natCast_zero,z1,z2,z3,z4] at h
 exact h
theorem Cm (hv:VB f) (hr:0≤c.room∧c.room≤1000) (hh:0≤c.hold∧c.hold≤1000) (ha:0≤c.apart∧c.apart≤2) (o:Bool):bK (f.e++c.e++b.e++[.b o])=some [.i (cS f c b (!o):Nat)]:=by
 have h60:=wc hv
 have h:=AH hz hc hb hbo hv hr hh ha
 have hsel:=ur c.sel b hc.2.2.1 hb hbo
 have q0:(c.fixed.toList==(bs #[]).toList)=sEq c.fixed (mkS []):=rfl
 have q1:(c.fixed.toList==b.name.toList)=sEq c.fixed b.name:=rfl
 have q2:(c.near.toList==(bs #[]).toList)=sEq c.near (mkS []):=rfl
 have q3:(c.near.toList==c.svc.toList)=sEq c.near c.svc:=rfl
 have b1:=kP (onP c b) Cp.room (kX hv) f.cps.length (by omega)
 have b2:=kP (onP c b) Cp.hold (kQ hv) f.cps.length (by omega)
 have w2:w64 (cy (onP c b) Cp.room f.cps f.cps.length+c.room)=cy (onP c b) Cp.room f.cps f.cps.length+c.room:=by rw[aP (by omega) (by omega)]
 have w3:w64 (cy (onP c b) Cp.hold f.cps f.cps.length+c.hold)=cy (onP c b) Cp.hold f.cps f.cps.length+c.hold:=by rw[aP (by omega) (by omega)]
 have e6:(10:Int)≤((fp (onP c b) f.cps f.cps.length:Nat):Int)↔10≤fp (onP c b) f.cps f.cps.length:=by omega
 simp only[Fl.e,Cp.e,Bt.e,jA,jB,BT] at h hsel
 have far:(!sEq c.near (mkS [])&&(!f.cps.any (iP f c b)&&!(sEq c.near c.svc&&!f.cps.any (lZ c c.svc))))=mH f c b:=by
  unfold mH
  cases hn:sEq c.near c.svc with
  |true=>rw[(bV _ _).1 hn];simp
  |false=>simp
 have fin:bK.d7 (.b f.pack) (.l (f.bts.map Bt.e)) (.l (f.svs.map Sv.e)) (.l (f.cps.map Cp.e))
   (.s c.name) (.s c.svc) (.i c.rank) (.i c.born) (.i c.room) (.i c.hold) (.s c.sel) (.l (c.likes.map Lk.e)) (.i c.apart) (.s c.near) (.s c.fixed) (.s c.at_) (.s b.name) (.s b.zone) (.l (b.marks.map sE)) (.i b.room) (.i b.hold) (.b b.shut)=
   some (.ret [.i (((bif !pg c.sel b then 3 else bif f.cps.any (iH f c b) then 4 else bif mH f c b then 5 else
 bif decide (10≤fp (onP c b) f.cps f.cps.length) then 6 else bif decide (b.room<cy (onP c b) Cp.room f.cps f.cps.length+c.room) then 7 else bif decide (b.hold<cy (onP c b) Cp.hold f.cps f.cps.length+c.hold) then 8 else 0:Nat):Nat):Int)]):=by
  simp only[bK.d7,hsel,ad,jI,jC,C.B_b,C.L_l,jW]
  cases pg c.sel b
  ·rfl
  simp only[jZ,jS]
  rw[h]
  simp only[aC,apL,jC,jD,bK.d6,C.B_b]
  cases f.cps.any (iH f c b)
  ·simp only[jS]
   have d5:∀e:Bool,bK.d5 (.i (fp (onP c b) f.cps f.cps.length:Nat)) (.i (cy (onP c b) Cp.room f.cps f.cps.length)) (.i (cy (onP c b) Cp.hold f.cps f.cps.length)) (.b e)
     (.s c.name) (.s c.svc) (.i c.rank) (.i c.born) (.i c.room) (.i c.hold) (.s c.sel) (.l (c.likes.map Lk.e)) (.i c.apart) (.s c.near) (.s c.fixed) (.s c.at_) (.s b.name) (.s b.zone) (.l (b.marks.map sE)) (.i b.room) (.i b.hold) (.b b.shut)=
     some (.ret [.i (((bif e then 5 else bif decide (10≤fp (onP c b) f.cps f.cps.length) then 6 else bif decide (b.room<cy (onP c b) Cp.room f.cps f.cps.length+c.room) then 7 else bif decide (b.hold<cy (onP c b) Cp.hold f.cps f.cps.length+c.hold) then 8 else 0:Nat):Nat):Int)]):=by
    intro e
    simp only[bK.d5,C.B_b,C.I_i,w2,w3,ge_iff_le,gt_iff_lt,e6]
    cases e
    ·simp only[jS]
     cases decide (10≤fp (onP c b) f.cps f.cps.length)
     ·simp only[jS]
      cases decide (b.room<cy (onP c b) Cp.room f.cps f.cps.length+c.room)
      ·simp only[jS]
       cases decide (b.hold<cy (onP c b) Cp.hold f.cps f.cps.length+c.hold)<;>rfl
      ·rfl
     ·rfl
    ·rfl
   rw[←far]
   generalize (bif decide (10≤fp (onP c b) f.cps f.cps.length) then 6 else bif decide (b.room<cy (onP c b) Cp.room f.cps f.cps.length+c.room) then 7 else bif decide (b.hold<cy (onP c b) Cp.hold f.cps f.cps.length+c.hold) then 8 else 0:Nat)=N at d5⊢
   simp only[C.S_s,q2,q3]
   cases sEq c.near (mkS [])<;>cases f.cps.any (iP f c b)<;>cases sEq c.near c.svc<;>cases f.cps.any (lZ c c.svc)<;>
    simp only[jR,jS,jZ,ja,jJ,apL,jC,jD,d5,Bool.and_true,Bool.and_false,Bool.true_and,Bool.false_and]
  ·rfl
 simp only[bK,bK.d9,Fl.e,Cp.e,Bt.e,jA,jB,apL,jC,jD,C.B_b,cS]
 generalize (bif !pg c.sel b then 3 else bif f.cps.any (iH f c b) then 4 else bif mH f c b then 5 else
 bif decide (10≤fp (onP c b) f.cps f.cps.length) then 6 else bif decide (b.room<cy (onP c b) Cp.room f.cps f.cps.length+c.room) then 7 else bif decide (b.hold<cy (onP c b) Cp.hold f.cps f.cps.length+c.hold) then 8 else 0:Nat)=N at fin⊢
 cases hs:b.shut<;>rw[hs] at fin<;>cases o<;>cases h1:sEq c.fixed (mkS [])<;>cases h2:sEq c.fixed b.name<;>
  simp only[bK.d8,q0,q1,h1,h2,fin,C.B_b,C.S_s,jR,jS,jZ,ja,Bool.and_true,Bool.and_false,Bool.true_and,Bool.false_and,jJ,uv,apL,jC,jD,jV]<;>rfl
end
end Go.Ev
namespace Go.Ev
section
variable {f:Fl} (hz:f.Sz 1048576) (cn bn_:Str)
include hz
end
def better (p:Bool) (a b:Int×Int×Int×Int):Bool:=bif a.1 !=b.1 then decide (a.1>b.1) else bif a.2.1 !=b.2.1 then decide (a.2.1<b.2.1) else bif a.2.2.1 !=b.2.2.1 then decide (a.2.2.1<b.2.2.1) else bif p then decide (a.2.2.2<b.2.2.2) else decide (a.2.2.2>b.2.2.2)
def sc4 (a:Int×Int×Int×Int):List C:=[.i a.1,.i a.2.1,.i a.2.2.1,.i a.2.2.2]
def eB (f:Fl) (c:Cp) (b:Bt):Int×Int×Int×Int:=(lJ c.likes b c.likes.length,(ka f c b f.cps.length:Nat),(gS f c b f.cps.length:Nat),pF f c b f.cps.length)
theorem tA (a b:Int×Int×Int×Int) (p:Bool):fU (sc4 a++sc4 b++[.b p])=some [.b (better p a b)]:=by
 simp only[fU,fU.d1,sc4,jA,jB,apL,jC,jD,C.I_i,C.B_b,better]
 cases a.1 !=b.1<;>cases a.2.1 !=b.2.1<;>cases a.2.2.1 !=b.2.2.1<;>cases p<;>rfl
theorem s9 (a b:Int×Int×Int×Int) (p:Bool):fV (sc4 a++sc4 b++[.b p])=some [.b (better p a b)]:=by
 simp only[fV,fV.d1,sc4,jA,jB,apL,jC,jD,C.I_i,C.B_b,better]
 cases a.1 !=b.1<;>cases a.2.1 !=b.2.1<;>cases a.2.2.1 !=b.2.2.1<;>cases p<;>rfl
def u0 (f:Fl) (c:Cp) (i:Int) (b:Bt):Bool:=decide (i<0)||match f.bts[i.toNat]? with|some y=>better f.pack (eB f c b) (eB f c y)|none=>true
def dF (f:Fl) (c:Cp):Nat→Int
 |0=>-1
 |i+1=>match f.bts[i]? with
  |some b=>bif cS f c b false==0&&u0 f c (dF f c i) b then i else dF f c i
  |none=>dF f c i
theorem mZ (f:Fl) (c:Cp):∀i,i≤f.bts.length→dF f c i=-1∨∃k,∃h:k<f.bts.length,dF f c i=(k:Nat)
 |0,_=>.inl rfl
 |i+1,h=>by
  have hi:i<f.bts.length:=by omega
  have ih:=mZ f c i (by omega)
  simp only[dF,List.getElem?_eq_getElem hi]
  generalize (cS f c f.bts[i] false==0&&_)=q
  cases q with
  |true=>exact .inr ⟨i,hi,rfl⟩
  |false=>exact ih
def dp (f:Fl) (c:Cp):Str:=match f.bts[(dF f c f.bts.length).toNat]? with
 |some b=>if dF f c f.bts.length<0 then mkS [] else b.name
 |none=>mkS []
section
variable {f:Fl} (hz:f.Sz 1048576) {c:Cp} (hc:c.Sz 1048576) (hv:VB f) (hr:0≤c.room∧c.room≤1000) (hh:0≤c.hold∧c.hold≤1000) (ha:0≤c.apart∧c.apart≤2)
include hz hc hv hr hh ha
theorem yc:cu (f.e++c.e)=some [.s (dp f c)]:=by
 have hlc:f.bts.length<big:=by have:=hz.1.1;simp only[big];omega
 have h:=cD (body:=Ci cu.d2) (S:=fun i=>[C.i (dF f c i),C.i (i:Nat)]++f.e++c.e) (n:=f.bts.length) (b:=0) (ys:=[C.i (dF f c f.bts.length)]++f.e)
  (fun i hi=>by
   have e3:((i:Int)<(f.bts.length:Int)):=by omega
   have m:=List.getElem_mem hi
   have F1:=um hz hc (hz.1.2 _ m) (lr hv _ m) hv hr hh false
   have S1:=rG hz hc (hz.1.2 _ m) (lr hv _ m)
   have S1:aY (f.e++c.e++f.bts[i].e)=some (sc4 (eB f c f.bts[i])):=S1
   have i1:(-1:Int)<0:=by omega
   have fe:(((cS f c f.bts[i] false:Nat):Int)==0)=(cS f c f.bts[i] false==0):=by rw[Bool.eq_iff_iff,beq_iff_eq,beq_iff_eq];omega
   simp only[dF,List.getElem?_eq_getElem hi]
   simp only[Fl.e,Cp.e,Bt.e,jA,jB] at F1 S1
   simp only[Fl.e,Cp.e,jA,jB,apL,jC,jD,cu.d2,C.I_i,C.L_l,C.B_b,jW,jY,getD_map' Bt.e hi,e3,decide_true,jR,jX]
   simp only[Bt.e,jC,jD,F1,S1,ad,jI,C.I_i,fe]
   cases cS f c f.bts[i] false==0 with
   |false=>simp[cu.d1,w1 hi hlc]
   |true=>
    rcases mZ f c i (by omega) with h|⟨k,hk,h⟩
    ·simp[h,cu.d1,w1 hi hlc,u0]
    ·have n1:¬((k:Int)<0):=by omega
     have n2:((k:Int)<(f.bts.length:Int)):=by omega
     have m2:=List.getElem_mem hk
     have S2:aY (f.e++c.e++f.bts[k].e)=some (sc4 (eB f c f.bts[k])):=rG hz hc (hz.1.2 _ m2) (lr hv _ m2)
     have B:=tA (eB f c f.bts[i]) (eB f c f.bts[k]) f.pack
     simp only[Fl.e,Cp.e,Bt.e,sc4,jA,jB] at S2 B
     simp only[h,n1,n2,u0,decide_true,decide_false,ja,jR,jX,jY,getD_map' Bt.e hk,List.getElem?_eq_getElem hk,Bool.true_and,Bool.false_or,sc4,call4,jI,jC,jD]
     simp only[Bt.e,jC,jD,S2,jI,B,C.B_b]
     cases better f.pack (eB f c f.bts[i]) (eB f c f.bts[k])<;>simp[cu.d1,w1 hi hlc])
  (by simp[cu.d2,Fl.e,Cp.e]) f.bts.length 0 rfl
 simp only[Fl.e,Cp.e,jA,jB,Int.natCast_zero,show dF f c 0=-1 from rfl] at h
 simp only[cu,cu.d4,Fl.e,Cp.e,jA,jB,apL,jC,jD,dp]
 rw[h]
 simp only[aC,apL,jC,jD,cu.d3,C.I_i,C.L_l,jW]
 rcases mZ f c f.bts.length (Nat.le_refl _) with h|⟨k,hk,h⟩
 ·simp[h]
  split<;>rfl
 ·have n1:¬((k:Int)<0):=by omega
  have n2:((k:Int)<(f.bts.length:Int)):=by omega
  simp only[h,n1,n2,decide_true,decide_false,jR,jS,jX,jY,getD_map' Bt.e hk,List.getElem?_eq_getElem hk,if_false,Bt.e,jC,jV]
end
end Go.Ev
namespace Go.Ev
def jf (f:Fl) (c:Cp) (i:Nat):Str:=if dF f c i<0 then mkS [] else match f.bts[(dF f c i).toNat]? with|some b=>b.name|none=>mkS []
def mO (f:Fl) (c:Cp) (i:Nat):Int×Int×Int×Int:=if dF f c i<0 then (0,0,0,0) else match f.bts[(dF f c i).toNat]? with|some b=>eB f c b|none=>(0,0,0,0)
theorem gE {b:Bt} (h:dq b=true):sEq b.name (mkS [])=false:=rM h _ ((bV _ _).2 rfl)
section
variable {f:Fl} (hz:f.Sz 1048576) {c:Cp} (hc:c.Sz 1048576) (hv:VB f) (hr:0≤c.room∧c.room≤1000) (hh:0≤c.hold∧c.hold≤1000) (ha:0≤c.apart∧c.apart≤2)
include hz hc hv hr hh ha
theorem zz:di (f.e++c.e)=some [.s (dp f c)]:=by
 have hlc:f.bts.length<big:=by have:=hz.1.1;simp only[big];omega
 have h:=cD (body:=xc di.d2) (S:=fun i=>[C.s (jf f c i),C.l (f.bts.map Bt.e),C.i ((f.bts.length:Nat):Int),C.i (i:Nat)]++f.e++c.e++sc4 (mO f c i)) (n:=f.bts.length) (b:=0) (ys:=[C.s (jf f c f.bts.length)])
  (fun i hi=>by
   have e3:((i:Int)<(f.bts.length:Int)):=by omega
   have m:=List.getElem_mem hi
   have F1:=Cm hz hc (hz.1.2 _ m) (lr hv _ m) hv hr hh ha true
   have S1:bW (f.e++c.e++f.bts[i].e)=some (sc4 (eB f c f.bts[i])):=A9 hz hc (hz.1.2 _ m) (lr hv _ m)
   have fe:(((cS f c f.bts[i] false:Nat):Int) !=0)=!(cS f c f.bts[i] false==0):=by rw[Bool.eq_iff_iff,bne_iff_ne,Bool.not_eq_true',beq_eq_false_iff_ne];omega
   have B:=s9 (eB f c f.bts[i]) (mO f c i) f.pack
   have q0:((jf f c i).toList==(bs #[]).toList)=sEq (jf f c i) (mkS []):=rfl
   have i0:¬((i:Int)<0):=by omega
   have st:(sEq (jf f c i) (mkS [])=true∧(dF f c i<0))∨(sEq (jf f c i) (mkS [])=false∧¬dF f c i<0∧∃y,f.bts[(dF f c i).toNat]?=some y∧mO f c i=eB f c y):=by
    rcases mZ f c i (by omega) with h|⟨k,hk,h⟩
    ·exact .inl ⟨by simp[jf,h,sEq],by omega⟩
    ·have n1:¬((k:Int)<0):=by omega
     refine .inr ⟨?_,by omega,f.bts[k],by simp[h,hk],by simp[mO,h,n1,hk]⟩
     simp only[jf,h,n1,if_false,jY,List.getElem?_eq_getElem hk]
     exact gE (lr hv _ (List.getElem_mem hk))
   have nx:∀q:Bool,(cS f c f.bts[i] false==0&&u0 f c (dF f c i) f.bts[i])=q→
     jf f c (i+1)=(bif q then f.bts[i].name else jf f c i)∧mO f c (i+1)=(bif q then eB f c f.bts[i] else mO f c i):=by
    intro q hq
    simp only[jf,mO,dF,List.getElem?_eq_getElem hi,hq]
    cases q<;>simp[i0,hi]
   simp only[Fl.e,Cp.e,Bt.e,sc4,jA,jB,jZ] at F1 S1 B
   simp only[Fl.e,Cp.e,sc4,jA,jB,apL,jC,jD,di.d2,C.I_i,C.L_l,C.S_s,C.B_b,jW,jY,getD_map' Bt.e hi,e3,decide_true,jR,jX]
   simp only[Bt.e,jC,jD,F1,S1,ad,call4,jI,C.I_i,fe,q0]
   cases hf:cS f c f.bts[i] false==0 with
   |false=>
    obtain ⟨g1,g2⟩:=nx false (by simp only[hf,Bool.false_and])
    simp only[g1,g2,jS]
    simp[di.d1,w1 hi hlc]
   |true=>
    rcases st with ⟨s1,s2⟩|⟨s1,s2,y,s3,s4⟩
    ·obtain ⟨g1,g2⟩:=nx true (by simp only[hf,s2,u0,decide_true,Bool.true_and,Bool.true_or])
     simp only[g1,g2,jR,s1]
     simp[di.d1,w1 hi hlc]
    ·obtain ⟨g1,g2⟩:=nx (better f.pack (eB f c f.bts[i]) (mO f c i)) (by simp only[hf,s2,s3,s4,u0,decide_false,Bool.true_and,Bool.false_or])
     simp only[g1,g2,s1,jZ,ja,jR,jS,B,jI,C.B_b,jC]
     cases better f.pack (eB f c f.bts[i]) (mO f c i)<;>simp[di.d1,w1 hi hlc])
  (by simp[di.d2,Fl.e,Cp.e,sc4]) f.bts.length 0 rfl
 have e0:jf f c 0=bs #[]:=rfl
 have e1:mO f c 0=(0,0,0,0):=rfl
 simp only[Fl.e,Cp.e,sc4,jA,jB,Int.natCast_zero,e0,e1] at h
 simp only[di,di.d4,Fl.e,Cp.e,jA,jB,apL,jC,jD,C.L_l,jW]
 rw[h]
 have:jf f c f.bts.length=dp f c:=by
  unfold jf dp
  rcases mZ f c f.bts.length (Nat.le_refl _) with h|⟨k,hk,h⟩
  ·simp[h];split<;>rfl
  ·have n1:¬((k:Int)<0):=by omega
   simp[h,n1,hk]
 simp[di.d3,this]
end
section
variable {f:Fl} (hz:f.Sz 1048576) (cn:Str)
include hz
end
end Go.Ev
namespace Go.Ev
theorem oj {α:Type} (p:α→Bool):∀(l:List α) (n:Nat),eA p l n<0→l.any p=false
 |[],_,_=>rfl
 |x::r,n,h=>by
  simp only[eA] at h
  cases hp:p x with
  |true=>rw[hp,jR] at h;omega
  |false=>rw[hp,jS] at h;simp[hp,oj p r (n+1) h]
def Gw (f:Fl) (c:Cp):Bool:=!sEq c.at_ (mkS [])&&match f.bts[(bIx f c.at_).toNat]? with|some b=>!(cS f c b true==0)|none=>false
def FF (f:Fl) (i:Nat):List Str:=((f.cps.take i).filter (Gw f)).map Cp.name
def DJ (f:Fl):List Str:=bif bP f then FF f f.cps.length else []
section
variable {f:Fl} (hz:f.Sz 1048576)
include hz
end
end Go.Ev
namespace Go.Ev
end Go.Ev
namespace Go.Ev
end Go.Ev
namespace Go.Ev
end Go.Ev
namespace Go.Ev
end Go.Ev
namespace Go.Ev
end Go.Ev
namespace Go.Ev
end Go.Ev
namespace Go.Ev
theorem ltL {i n:Nat} (h:i<n):decide ((i:Int)<(n:Int))=true:=by simp;omega
end Go.Ev
namespace Go.Ev
theorem qh {α:Type} (e:α→List C) {l:List α} {i:Nat} (h:i<l.length):(l.take i).map e++[e l[i]]=(l.take (i+1)).map e:=by
 rw[List.take_succ_eq_append_getElem h,List.map_append];rfl
theorem sY {b:Bt} (h:b.marks.length≤1048576):fR b.e=some b.o:=by
 have:b.marks.length≤4294967296:=by omega
 simp[fR,fR.d1,Bt.e,Bt.o,this]
theorem wC {b:Bt} (h:b.marks.length≤1048576):gh b.e=some b.o:=by
 have:b.marks.length≤4294967296:=by omega
 simp[gh,gh.d1,Bt.e,Bt.o,this]
theorem u9 {c:Cp} (h:c.likes.length≤1048576):gA c.e=some c.o:=by
 have:c.likes.length≤4294967296:=by omega
 simp[gA,gA.d1,Cp.e,Cp.o,this]
theorem mJ {c:Cp} (h:c.likes.length≤1048576):gV c.e=some c.o:=by
 have:c.likes.length≤4294967296:=by omega
 simp[gV,gV.d1,Cp.e,Cp.o,this]
section
variable {f:Fl} (hz:f.Sz 1048576)
include hz
theorem AP:du f.e=some f.e:=by
 have hlb:f.bts.length<big:=by have:=hz.1.1;simp only[big];omega
 have hlc:f.cps.length<big:=by have:=hz.2.2.1;simp only[big];omega
 have h1:=cD (body:=IS du.d1) (S:=fun i=>[C.l (f.bts.map Bt.e),C.i (f.bts.length:Nat),C.i (i:Nat)]++f.e++[C.b false,C.b f.pack,.l ao,.l ao,.l ao,C.l ((f.bts.take i).map Bt.e),C.l (f.svs.map Sv.e),.l ao]) (n:=f.bts.length) (b:=0) (ys:=f.e++[C.b false,C.b f.pack,.l ao,.l ao,.l ao,C.l ((f.bts.take f.bts.length).map Bt.e),C.l (f.svs.map Sv.e),.l ao])
  (fun i hi=>by
   have hc:=sY (hz.1.2 _ (List.getElem_mem hi)).2.2.1
   have hn:(f.bts.take i).length+1≤4294967296:=by rw[List.length_take];have:=hz.1.1;omega
   have sn:=qh Bt.e hi
   simp only[Bt.e,Bt.o] at hc
   simp only[Fl.e,jA,jB,apL,jC,jD,du.d1,C.I_i,C.L_l,jW,jY,getD_map' Bt.e hi,ltL hi,decide_true,jR,jX,w1 hi hlb]
   simp only[Bt.e] at sn
   simp only[Bt.e,jC,jD,hc,call6,jI,C.L_l,rows,List.length_cons,List.length_nil,Nat.zero_add,hn,decide_true,jR,sn])
  (by simp[du.d1,Fl.e]) f.bts.length 0 rfl
 have h2:=cD (body:=Aw du.d2) (S:=fun i=>[C.l (f.cps.map Cp.e),C.i (f.cps.length:Nat),C.i (i:Nat)]++[C.b false,C.b f.pack,.l ao,.l ao,.l ao,C.l (f.bts.map Bt.e),C.l (f.svs.map Sv.e),C.l ((f.cps.take i).map Cp.e)]) (n:=f.cps.length) (b:=2) (ys:=[C.b false,C.b f.pack,.l ao,.l ao,.l ao,C.l (f.bts.map Bt.e),C.l (f.svs.map Sv.e),C.l ((f.cps.take f.cps.length).map Cp.e)])
  (fun i hi=>by
   have hc:=u9 (hz.2.2.2 _ (List.getElem_mem hi)).2.2.2.2.2.2.1
   have hn:(f.cps.take i).length+1≤4294967296:=by rw[List.length_take];have:=hz.2.2.1;omega
   have sn:=qh Cp.e hi
   simp only[Cp.e,Cp.o] at hc
   simp only[jA,jB,apL,jC,jD,du.d2,C.I_i,C.L_l,jW,jY,getD_map' Cp.e hi,ltL hi,decide_true,jR,jX,w1 hi hlc]
   simp only[Cp.e] at sn
   simp only[Cp.e,jC,jD,hc,call12,jI,C.L_l,rows,List.length_cons,List.length_nil,Nat.zero_add,hn,decide_true,jR,sn])
  (by simp[du.d2]) f.cps.length 0 rfl
 have hs:f.svs.length≤4294967296:=by have:=hz.2.1.1;omega
 simp only[Fl.e,jA,jB,Int.natCast_zero,List.take_zero,List.map_nil,List.take_length] at h1 h2
 simp only[du,du.d5,Fl.e,apL,jC,jD,C.L_l,C.B_b,jW,hs,decide_true,jR]
 rw[show ao=([]:List (List C)) from rfl] at h1 h2⊢
 rw[h1]
 simp only[aC,apL,jC,jD,du.d4,C.L_l,jW]
 rw[h2]
 simp[du.d3]
theorem jj:bU f.e=some f.e:=by
 have hlb:f.bts.length<big:=by have:=hz.1.1;simp only[big];omega
 have hlc:f.cps.length<big:=by have:=hz.2.2.1;simp only[big];omega
 have h1:=cD (body:=oQ bU.d1) (S:=fun i=>[C.i (i:Nat)]++f.e++[C.b false,C.b f.pack,.l ao,.l ao,.l ao,C.l ((f.bts.take i).map Bt.e),C.l (f.svs.map Sv.e),.l ao]) (n:=f.bts.length) (b:=0) (ys:=f.e++[C.b false,C.b f.pack,.l ao,.l ao,.l ao,C.l ((f.bts.take f.bts.length).map Bt.e),C.l (f.svs.map Sv.e),.l ao])
  (fun i hi=>by
   have hc:=wC (hz.1.2 _ (List.getElem_mem hi)).2.2.1
   have hn:(f.bts.take i).length+1≤4294967296:=by rw[List.length_take];have:=hz.1.1;omega
   have sn:=qh Bt.e hi
   simp only[Bt.e,Bt.o] at hc
   simp only[Fl.e,jA,jB,apL,jC,jD,bU.d1,C.I_i,C.L_l,jW,jY,getD_map' Bt.e hi,ltL hi,decide_true,jR,jX,w1 hi hlb]
   simp only[Bt.e] at sn
   simp only[Bt.e,jC,jD,hc,call6,jI,C.L_l,rows,List.length_cons,List.length_nil,Nat.zero_add,hn,decide_true,jR,sn])
  (by simp[bU.d1,Fl.e]) f.bts.length 0 rfl
 have h2:=cD (body:=oQ bU.d2) (S:=fun i=>[C.i (i:Nat)]++f.e++[C.b false,C.b f.pack,.l ao,.l ao,.l ao,C.l (f.bts.map Bt.e),C.l (f.svs.map Sv.e),C.l ((f.cps.take i).map Cp.e)]) (n:=f.cps.length) (b:=2) (ys:=[C.b false,C.b f.pack,.l ao,.l ao,.l ao,C.l (f.bts.map Bt.e),C.l (f.svs.map Sv.e),C.l ((f.cps.take f.cps.length).map Cp.e)])
  (fun i hi=>by
   have hc:=mJ (hz.2.2.2 _ (List.getElem_mem hi)).2.2.2.2.2.2.1
   have hn:(f.cps.take i).length+1≤4294967296:=by rw[List.length_take];have:=hz.2.2.1;omega
   have sn:=qh Cp.e hi
   simp only[Cp.e,Cp.o] at hc
   simp only[Fl.e,jA,jB,apL,jC,jD,bU.d2,C.I_i,C.L_l,jW,jY,getD_map' Cp.e hi,ltL hi,decide_true,jR,jX,w1 hi hlc]
   simp only[Cp.e] at sn
   simp only[Cp.e,jC,jD,hc,call12,jI,C.L_l,rows,List.length_cons,List.length_nil,Nat.zero_add,hn,decide_true,jR,sn])
  (by simp[bU.d2,Fl.e]) f.cps.length 0 rfl
 have hs:0+f.svs.length≤4294967296:=by have:=hz.2.1.1;omega
 simp only[Fl.e,jA,jB,Int.natCast_zero,List.take_zero,List.map_nil,List.take_length] at h1 h2
 rw[show ao=([]:List (List C)) from rfl] at h1 h2
 simp only[bU,bU.d5,Fl.e,apL,jC,jD,C.L_l,C.B_b,jW,show ao=([]:List (List C)) from rfl,List.length_nil,hs,decide_true,jR,jB]
 rw[h1]
 simp only[aC,apL,jC,jD,bU.d4,C.L_l,jW]
 rw[h2]
 simp[bU.d3]
end
end Go.Ev
namespace Go.Ev
theorem oI:∀(a b c:List UInt8),Op.bytesLess a b=true→Op.bytesLess b c=true→Op.bytesLess a c=true
 |_,_,[],_,h2=>by cases ‹List UInt8›<;>simp[Op.bytesLess] at h2
 |_,[],_::_,h1,_=>by simp[Op.bytesLess] at h1
 |[],_::_,_::_,_,_=>by simp[Op.bytesLess]
 |x::a,y::b,z::c,h1,h2=>by
  simp only[Op.bytesLess,Bool.or_eq_true,Bool.and_eq_true,decide_eq_true_eq,beq_iff_eq] at h1 h2⊢
  have lt (p q:UInt8):p<q↔p.toNat<q.toNat:=Iff.rfl
  simp only[lt] at h1 h2⊢
  rcases h1 with h1|⟨rfl,h1⟩
  ·rcases h2 with h2|⟨rfl,h2⟩
   ·left;omega
   ·left;exact h1
  ·rcases h2 with h2|⟨rfl,h2⟩
   ·left;exact h2
   ·right;exact ⟨rfl,oI a b c h1 h2⟩
theorem qJ:∀(a:List UInt8),Op.bytesLess a a=false
 |[]=>rfl
 |x::r=>by
  have ih:=qJ r
  simp only[Op.bytesLess,ih]
  simp
theorem Am (a:Str):sLt a a=false:=qJ _
theorem jm {a b c:Str} (h1:sLt a b=true) (h2:sLt b c=true):sLt a c=true:=oI _ _ _ h1 h2
theorem Cg {α:Type} {lt:α→α→Bool} {l:List α} (ht:∀a b c,lt a b=true→lt b c=true→lt a c=true) (h:∀i (h:i+1<l.length),lt (l[i]'(by omega)) l[i+1]=true):
  ∀(d i:Nat) (hj:i+d+1<l.length),lt (l[i]'(by omega)) l[i+d+1]=true
 |0,i,hj=>h i hj
 |d+1,i,hj=>ht _ _ _ (Cg ht h d i (by omega)) (h (i+d+1) (by omega))
def tZ (l:List Cp):Prop:=∀(i k:Nat) (hi:i<l.length) (hk:k<l.length),sEq l[i].name l[k].name=true→i=k
theorem GB {f:Fl} (h:bP f=true) (d i:Nat) (hj:i+d+1<f.cps.length):sLt (f.cps[i]'(by omega)).name f.cps[i+d+1].name=true:=by
 refine Cg (lt:=fun a b:Cp=>sLt a.name b.name) (fun a b c=>jm) (fun i hi=>?_) d i hj
 simp only[bP,Bool.and_eq_true] at h
 have:=(dx _ _ _).1 h.2.2.2.2.1 (i+1) (Nat.zero_le _) (by omega)
 have hi':i<f.cps.length:=by omega
 have e:(i+1==0)=false:=rfl
 simp only[cpA,List.getElem?_eq_getElem hi,Nat.add_sub_cancel,List.getElem?_eq_getElem hi',e,Bool.false_or,Bool.and_eq_true] at this
 exact this.2.2.1
theorem j6 {f:Fl} (h:bP f=true):tZ f.cps:=by
 have key:∀(i k:Nat) (hi:i<f.cps.length) (hk:k<f.cps.length),i<k→sEq f.cps[i].name f.cps[k].name=true→False:=by
  intro i k hi hk hlt he
  obtain ⟨d,rfl⟩:∃d,k=i+d+1:=⟨k-i-1,by omega⟩
  have:=GB h d i hk
  rw[(bV _ _).1 he,Am] at this
  exact absurd this (by decide)
 intro i k hi hk he
 rcases Nat.lt_trichotomy i k with h1|h1|h1
 ·exact (key i k hi hk h1 he).elim
 ·exact h1
 ·exact (key k i hk hi h1 (by rw[fL];exact he)).elim
def inS (g:List Str) (s:Str):Bool:=g.any fun x=>sEq s x
def goC (g:List Str) (c:Cp):Cp:=bif inS g c.name then {c with at_:=mkS []} else c
def goF (f:Fl) (g:List Str):Fl:= {f with cps:=f.cps.map (goC g)}
section
variable {f:Fl} (hz:f.Sz 1048576) (g:List Str) (hg:g.length≤1048576)
include hz hg
end
end Go.Ev
namespace Go.Ev
structure Sp where
 copy:Str
 berth:Str
 gone:List Str
def Sp.e (s:Sp):List C:=[.s s.copy,.s s.berth,.l (s.gone.map sE)]
def Sp.Sz (K:Nat) (s:Sp):Prop:=s.copy.size≤K∧s.berth.size≤K∧BD K s.gone
def fl0:Fl:=⟨false,[],[],[]⟩
def setAt (f:Fl) (i:Nat) (c:Cp) (b:Str):Fl:= {f with cps:=f.cps.set i {c with at_:=b}}
section
variable {f:Fl} (hz:f.Sz 1048576) {s:Sp} (hs:s.Sz 1048576)
include hz hs
end
end Go.Ev
namespace Go.Ev
theorem IQ:fl0.Sz 1048576:=by refine ⟨⟨by simp[fl0],fun _ h=>?_⟩,⟨by simp[fl0],fun _ h=>?_⟩,by simp[fl0],fun _ h=>?_⟩<;>simp[fl0] at h
theorem Gd {f:Fl} (hz:f.Sz 1048576) {c:Cp} (hc:c.Sz 1048576) {b:Str} (hb:b.size≤1048576) (i:Nat):(setAt f i c b).Sz 1048576:=by
 refine ⟨hz.1,hz.2.1,by simp only[setAt,List.length_set];exact hz.2.2.1,fun x hx=>?_⟩
 simp only[setAt] at hx
 rcases List.mem_or_eq_of_mem_set hx with h|rfl
 ·exact hz.2.2.2 x h
 ·exact ⟨hc.1,hc.2.1,hc.2.2.1,hc.2.2.2.1,hc.2.2.2.2.1,hb,hc.2.2.2.2.2.2⟩
end Go.Ev
namespace Go.Ev
def JF (r:Int) (l:List Int):Nat:=(l.takeWhile fun x=>decide (x≥r)).length
def Kk (r:Int) (l:List Int):List Int:=l.take (JF r l)++r::l.drop (JF r l)
def IW (l:List Int):List Int:=l.foldl (fun a r=>Kk r a) []
theorem takeN {α:Type} (p:α→Bool):∀l:List α,l.take (l.takeWhile p).length=l.takeWhile p∧l.drop (l.takeWhile p).length=l.dropWhile p
 |[]=>⟨rfl,rfl⟩
 |x::r=>by
  have ih:=takeN p r
  cases h:p x<;>simp[List.takeWhile,List.dropWhile,h,ih]
end Go.Ev
namespace Go.Ev
def IL (f:Fl) (s:Str):Int:=match f.cps[(cIx f s).toNat]? with|some c=>c.rank|none=>0
def FJ (f:Fl) (g:List Str) (j:Nat):Bool:=decide (0≤cIx f (sAt g j))
def HO (f:Fl) (g:List Str):List Int:=g.map (IL f)
section
variable {f:Fl} (hz:f.Sz 1048576) (g:List Str) (hg:BD 1048576 g)
include hz hg
end
end Go.Ev
namespace Go.Ev
section
variable {α:Type} (lt:α→α→Bool)
def kp (c:α) (l:List α):Nat:=(l.takeWhile fun x=>lt x c).length
def zg (c:α) (l:List α):List α:=l.take (kp lt c l)++c::l.drop (kp lt c l)
def uT (l:List α):List α:=l.foldl (fun a c=>zg lt c a) []
theorem Dz (c:α) (l:List α):kp lt c l≤l.length:=(List.takeWhile_sublist _).length_le
theorem Ek (c:α) (l:List α):(zg lt c l).Perm (c::l):=by
 have h:=List.perm_middle (a:=c) (l₁:=l.take (kp lt c l)) (l₂:=l.drop (kp lt c l))
 rw[List.take_append_drop] at h
 exact h
theorem Cu {p:α→Bool}:∀ {l:List α} (x:α),x∈l.takeWhile p→p x=true
 |[],x,h=>by simp at h
 |y::r,x,h=>by
  cases hp:p y with
  |false=>simp[List.takeWhile,hp] at h
  |true=>
   simp only[List.takeWhile,hp,List.mem_cons] at h
   rcases h with rfl|h
   ·exact hp
   ·exact Cu x h
theorem AW (irr:∀x,lt x x=false) (trans:∀x y z,lt x y=true→lt y z=true→lt x z=true) (ntr:∀x y z,lt x y=false→lt y z=false→lt x z=false)
  (c:α) {l:List α} (h:l.Pairwise fun x y=>lt y x=false):(zg lt c l).Pairwise fun x y=>lt y x=false:=by
 obtain ⟨e1,e2⟩:=takeN (fun x=>lt x c) l
 unfold zg kp
 rw[e1,e2]
 have h0:=h
 rw[←List.takeWhile_append_dropWhile (p:=fun x=>lt x c) (l:=l),List.pairwise_append] at h0
 obtain ⟨h1,h2,h3⟩:=h0
 have hz:∀y,y∈l.dropWhile (fun x=>lt x c)→lt y c=false:=by
  intro y hy
  cases hd:l.dropWhile (fun x=>lt x c) with
  |nil=>rw[hd] at hy;simp at hy
  |cons z t=>
   have hz:lt z c=false:=by
    have:=List.head_dropWhile_not (p:=fun x=>lt x c) (l:=l) (by rw[hd];simp)
    simpa only[hd,List.head_cons] using this
   rw[hd] at hy h2
   rcases List.mem_cons.1 hy with rfl|hy
   ·exact hz
   ·exact ntr _ _ _ ((List.pairwise_cons.1 h2).1 y hy) hz
 refine List.pairwise_append.2 ⟨h1,List.pairwise_cons.2 ⟨hz,h2⟩,fun x hx y hy=>?_⟩
 have hx':lt x c=true:=Cu x hx
 rcases List.mem_cons.1 hy with rfl|hy
 ·cases hq:lt y x with
  |false=>rfl
  |true=>
   have:=trans _ _ _ hx' hq
   rw[irr] at this;cases this
 ·exact h3 x hx y hy
theorem sB (irr:∀x,lt x x=false) (trans:∀x y z,lt x y=true→lt y z=true→lt x z=true) (ntr:∀x y z,lt x y=false→lt y z=false→lt x z=false):
  ∀(l a:List α),(a.Pairwise fun x y=>lt y x=false)→((l.foldl (fun a c=>zg lt c a) a).Pairwise fun x y=>lt y x=false)∧(l.foldl (fun a c=>zg lt c a) a).Perm (l++a)
 |[],a,h=>⟨h,.refl _⟩
 |c::l,a,h=>by
  obtain ⟨h1,h2⟩:=sB irr trans ntr l (zg lt c a) (AW lt irr trans ntr c h)
  exact ⟨h1,h2.trans (((Ek lt c a).append_left l).trans List.perm_middle)⟩
theorem EO (l:List α) (c:α):uT lt (l++[c])=zg lt c (uT lt l):=by simp[uT,List.foldl_append]
end
def ahd (a b:Cp):Bool:=ltE a.rank a.born a.name b.rank b.born b.name
theorem rT (x:Cp):ahd x x=false:=Di _ _ _
theorem mW (x y z:Cp):ahd x y=true→ahd y z=true→ahd x z=true:=sS
theorem r8 (x y z:Cp):ahd x y=false→ahd y z=false→ahd x z=false:=wA
theorem FO {a b:Cp} (h1:ahd a b=false) (h2:ahd b a=false):sEq a.name b.name=true:=by
 rcases C7 h1 with h|⟨_,_,h⟩
 ·have:ahd b a=true:=h
  rw[h2] at this;cases this
 ·rw[bV]
  have:b.name.data=a.name.data:=Array.toList_inj.1 h
  cases hb:b.name;cases ha:a.name
  rw[ha,hb] at this
  simp only at this
  rw[this]
def cQ (c:Cp):Bool:=sEq c.at_ (mkS [])
def waits (f:Fl):List Cp:=f.cps.filter cQ
def queue (f:Fl):List Cp:=uT ahd (waits f)
theorem jn (f:Fl):(queue f).Perm (waits f):=by
 have:=(sB ahd rT mW r8 (waits f) [] .nil).2
 rwa [List.append_nil] at this
theorem lp {f:Fl} {c:Cp} (h:c∈queue f):c∈f.cps∧cQ c=true:=by
 have:=(jn f).mem_iff.1 h
 exact List.mem_filter.1 this
theorem rJ {l:List Cp} (hu:tZ l) {x y:Cp} (hx:x∈l) (hy:y∈l) (h:sEq x.name y.name=true):x=y:=by
 obtain ⟨i,hi,rfl⟩:=List.getElem_of_mem hx
 obtain ⟨k,hk,rfl⟩:=List.getElem_of_mem hy
 have:=hu i k hi hk h
 subst this;rfl
theorem CS {f:Fl} (hu:tZ f.cps):(waits f).mergeSort (fun x y=>!ahd y x)=queue f:=by
 have hw:∀x,x∈waits f→x∈f.cps:=fun x h=>(List.mem_filter.1 h).1
 refine List.Perm.eq_of_pairwise (le:=fun x y=>ahd y x=false) (fun x y hx hy e1 e2=>?_) ?_ (sB ahd rT mW r8 (waits f) [] .nil).1 ((List.mergeSort_perm _ _).trans (jn f).symm)
 ·exact rJ hu (hw _ ((List.mergeSort_perm _ _).mem_iff.1 hx)) (lp hy).1 (FO e2 e1)
 ·have:=List.pairwise_mergeSort (le:=fun x y:Cp=>!ahd y x)
   (fun x y z e1 e2=>by
    simp only[Bool.not_eq_true'] at*
    exact r8 _ _ _ e2 e1)
   (fun x y=>by
    cases e1:ahd y x with
    |false=>simp
    |true=>
     cases e2:ahd x y with
     |false=>simp
     |true=>
      have:=mW _ _ _ e2 e1
      rw[rT] at this;cases this) (waits f)
  exact this.imp fun {x y} h=>by simpa using h
theorem DX:∀ {l:List Cp},(∀x,x∈l→AD x.rank x.born=true)→(l.Pairwise fun x y=>sEq x.name y.name=false)→∀ {lt:List C→List C→Bool},(∀x y,x∈l→y∈l→lt x.e y.e=ahd x y)→nI lt (l.map Cp.e)=true
 |[],_,_,_,_=>rfl
 |x::r,hq,hp,lt,hlt=>by
  simp only[List.map_cons,nI,Bool.and_eq_true,List.all_eq_true,List.mem_map]
  refine ⟨?_,DX (fun y hy=>hq y (by simp[hy])) (List.pairwise_cons.1 hp).2 fun y z hy hz=>hlt y z (by simp[hy]) (by simp[hz])⟩
  rintro _ ⟨y,hy,rfl⟩
  rw[hlt x y (by simp) (by simp[hy]),hlt y x (by simp[hy]) (by simp)]
  cases h1:ahd x y with
  |true=>rfl
  |false=>
   cases h2:ahd y x with
   |true=>rfl
   |false=>
    have:=FO h1 h2
    rw[(List.pairwise_cons.1 hp).1 y hy] at this;cases this
theorem FV {l:List Cp} (hu:tZ l):l.Pairwise fun x y=>sEq x.name y.name=false:=by
 rw[List.pairwise_iff_getElem]
 intro i j hi hj hij
 cases h:sEq l[i].name l[j].name with
 |false=>rfl
 |true=>
  have:=hu i j hi hj h
  omega
theorem wu (f:Fl) {i:Nat} (h:i<f.cps.length):(f.cps.take (i+1)).filter cQ=bif cQ f.cps[i] then (f.cps.take i).filter cQ++[f.cps[i]] else (f.cps.take i).filter cQ:=by
 rw[List.take_succ_eq_append_getElem h,List.filter_append]
 cases hw:cQ f.cps[i]<;>simp[hw]
theorem yo (f:Fl) (i:Nat):((f.cps.take i).filter cQ).length≤f.cps.length:=
 Nat.le_trans (List.length_filter_le _ _) (by rw[List.length_take];omega)
def fj (f:Fl):List Str:=bif bP f then (queue f).map Cp.name else []
theorem zm (a b:Cp):iJ (a.e++b.e)=some [.b (ahd a b)]:=by
 simp only[iJ,iJ.d1,Cp.e,jA,jB,apL,jC,jD,C.I_i,C.S_s,ahd,ltE,eH]
 by_cases e1:a.rank=b.rank
 ·by_cases e2:a.born=b.born
  ·simp[e1,e2]
  ·have:(a.born !=b.born)=true:=by simp[e2]
   have q:(a.born==b.born)=false:=by simp[e2]
   simp[e1,this,q]
 ·have:(a.rank !=b.rank)=true:=by simp[e1]
  have q:(a.rank==b.rank)=false:=by simp[e1]
  simp[this,q]
section
variable {f:Fl} (hz:f.Sz 1048576)
include hz
end
end Go.Ev
namespace Go.Ev
theorem I4 (c:Cp):[c.e.getD 0 .nil,c.e.getD 1 .nil,c.e.getD 2 .nil,c.e.getD 3 .nil,c.e.getD 4 .nil,c.e.getD 5 .nil,c.e.getD 6 .nil,c.e.getD 7 .nil,c.e.getD 8 .nil,c.e.getD 9 .nil,c.e.getD 10 .nil,c.e.getD 11 .nil]=c.e:=rfl
section
variable {f:Fl} (hz:f.Sz 1048576)
include hz
theorem FP {i:Nat} (hi:i<f.cps.length) (L:List Cp) (hL:L.length≤60):lim (ap7 aW.d1) ([.i (i:Nat),.i 0]++f.e++[.l (L.map Cp.e)])=some (.brk 2 ([.i (i:Nat),.i (kp ahd f.cps[i] L:Nat)]++f.e++[.l (L.map Cp.e)])):=by
 have hlb:L.length<big:=by simp only[big];omega
 have hle:=Dz ahd f.cps[i] L
 obtain ⟨e1,e2⟩:=takeN (fun x=>ahd x f.cps[i]) L
 have hA:∀a:Cp,iJ [a.e.getD 0 .nil,a.e.getD 1 .nil,a.e.getD 2 .nil,a.e.getD 3 .nil,a.e.getD 4 .nil,a.e.getD 5 .nil,a.e.getD 6 .nil,a.e.getD 7 .nil,a.e.getD 8 .nil,a.e.getD 9 .nil,a.e.getD 10 .nil,a.e.getD 11 .nil,f.cps[i].e.getD 0 .nil,f.cps[i].e.getD 1 .nil,f.cps[i].e.getD 2 .nil,f.cps[i].e.getD 3 .nil,f.cps[i].e.getD 4 .nil,f.cps[i].e.getD 5 .nil,f.cps[i].e.getD 6 .nil,f.cps[i].e.getD 7 .nil,f.cps[i].e.getD 8 .nil,f.cps[i].e.getD 9 .nil,f.cps[i].e.getD 10 .nil,f.cps[i].e.getD 11 .nil]=some [.b (ahd a f.cps[i])]:=fun a=>zm a f.cps[i]
 have h:=cD (body:=ap7 aW.d1) (S:=fun k=>[.i (i:Nat),.i (k:Nat)]++f.e++[C.l (L.map Cp.e)]) (n:=kp ahd f.cps[i] L) (b:=2) (ys:=[.i (i:Nat),.i (kp ahd f.cps[i] L:Nat)]++f.e++[C.l (L.map Cp.e)])
  (fun k hk=>by
   have hk':k<L.length:=by omega
   have hge:ahd L[k] f.cps[i]=true:=by
    have h1:(L.takeWhile fun x=>ahd x f.cps[i])[k]'hk=L[k]:=(List.takeWhile_prefix (fun x=>ahd x f.cps[i]) (l:=L)).getElem hk
    have:=Cu (p:=fun x=>ahd x f.cps[i]) _ (List.getElem_mem hk)
    rw[h1] at this
    exact this
   simp only[Fl.e,jA,jB,apL,jC,jD,aW.d1,C.I_i,C.L_l,jW,ltL hk',ltL hi,decide_true,jR,jX,jY,getD_map' Cp.e hk',getD_map' Cp.e hi,w1 hk' hlb,hA,ad,jI,C.B_b,hge])
  (by
   simp only[Fl.e,jA,jB,apL,jC,jD,aW.d1,C.I_i,C.L_l,jW]
   rcases Nat.lt_or_ge (kp ahd f.cps[i] L) L.length with h|h
   ·have hlt:ahd L[kp ahd f.cps[i] L] f.cps[i]=false:=by
     have hd:L.drop (kp ahd f.cps[i] L)=L.dropWhile fun x=>ahd x f.cps[i]:=e2
     have hne:L.dropWhile (fun x=>ahd x f.cps[i])≠[]:=by rw[←hd];intro h0;rw[List.drop_eq_nil_iff] at h0;omega
     have:=List.head_dropWhile_not (p:=fun x=>ahd x f.cps[i]) (l:=L) hne
     have h5:(L.drop (kp ahd f.cps[i] L)).head (by rw[hd];exact hne)=L[kp ahd f.cps[i] L]:=by simp[List.head_drop]
     simp only[←hd,h5] at this
     exact this
    simp only[ltL h,ltL hi,decide_true,jR,jX,jY,getD_map' Cp.e h,getD_map' Cp.e hi,hA,ad,jI,jC,C.B_b,hlt,jS]
   ·have:¬(((kp ahd f.cps[i] L:Nat):Int)<(L.length:Int)):=by omega
    simp only[this,decide_false,jS]) (kp ahd f.cps[i] L) 0 rfl
 exact h
theorem so (hv:VB f):aW f.e=some [.l (((queue f).map Cp.name).map sE)]:=by
 have hlc:f.cps.length<big:=by have:=hz.2.2.1;simp only[big];omega
 have h:=cD (body:=ap6 aW.d4) (S:=fun i=>[C.i (i:Nat)]++f.e++[C.l ((uT ahd ((f.cps.take i).filter cQ)).map Cp.e)]) (n:=f.cps.length) (b:=0) (ys:=[C.l ((uT ahd ((f.cps.take f.cps.length).filter cQ)).map Cp.e)])
  (fun i hi=>by
   have hn:((f.cps.take i).filter cQ).length≤60:=by have:=yo f i;have:=hv.n60;omega
   have hil:(uT ahd ((f.cps.take i).filter cQ)).length≤60:=by
    have:=(sB ahd rT mW r8 ((f.cps.take i).filter cQ) [] .nil).2.length_eq
    rw[List.append_nil] at this
    simp only[uT];omega
   have q0:(((f.cps[i].e.getD 11 C.nil).S).toList==(bs #[]).toList)=cQ f.cps[i]:=rfl
   have hI:=FP hz hi _ hil
   have hN:=Dz ahd f.cps[i] (uT ahd ((f.cps.take i).filter cQ))
   simp only[Fl.e,jA,jB] at hI
   simp only[Fl.e,jA,jB,apL,jC,jD,aW.d4,C.I_i,C.L_l,jW,ltL hi,decide_true,jR,jX,jY,getD_map' Cp.e hi,q0,wu f hi]
   cases hw:cQ f.cps[i] with
   |false=>simp[aW.d3,w1 hi hlc]
   |true=>
    simp only[jR,jZ,jS,EO]
    generalize uT ahd ((f.cps.take i).filter cQ)=L at hI hil hN⊢
    rw[hI]
    have q1:((kp ahd f.cps[i] L:Nat):Int)≤(L.length:Int):=by omega
    have q2:0+kp ahd f.cps[i] L≤4294967296:=by omega
    have q3:min (kp ahd f.cps[i] L) L.length=kp ahd f.cps[i] L:=by omega
    have q4:0+kp ahd f.cps[i] L+(0+1)≤4294967296:=by omega
    have q5:0+kp ahd f.cps[i] L+(0+1)+(L.length-kp ahd f.cps[i] L)≤4294967296:=by omega
    simp only[aC,apL,jC,jD,aW.d2,C.I_i,C.L_l,jW,q1,ltL hi,getD_map' Cp.e hi,I4,jX,decide_true,jR,jY,rows,List.length_append,List.length_drop,List.length_take,Nat.sub_zero,List.length_cons,List.length_nil,q2,q3,q4,q5,Int.le_refl,Nat.min_self,List.drop_zero,jB]
    have p1:kp ahd f.cps[i] L≤4294967295:=by omega
    have p2:kp ahd f.cps[i] L+1+(L.length-kp ahd f.cps[i] L)≤4294967296:=by omega
    simp[zg,List.map_take,List.map_drop,List.take_of_length_le,p1,p2,aW.d3,w1 hi hlc])
  (by simp[aW.d4,Fl.e]) f.cps.length 0 rfl
 have hql:(queue f).length≤60:=by
  rw[(jn f).length_eq]
  exact Nat.le_trans (List.length_filter_le _ _) hv.n60
 have h0:uT ahd (f.cps.filter cQ)=queue f:=rfl
 simp only[Fl.e,jA,jB,Int.natCast_zero,List.take_zero,List.filter_nil,show uT ahd ([]:List Cp)=[] from rfl,List.map_nil,List.take_length,h0] at h
 generalize queue f=q at h hql⊢
 have h2:=cD (body:=ap3 aW.d5) (S:=fun i=>[C.i (i:Nat),C.l (q.map Cp.e),C.l (((q.take i).map Cp.name).map sE)]) (n:=q.length) (b:=4) (ys:=[C.l (((q.take q.length).map Cp.name).map sE)])
  (fun i hi=>by
   have hn:(q.take i).length+1≤4294967296:=by rw[List.length_take];omega
   have hs:[(q[i].e).getD 0 C.nil]=sE q[i].name:=rfl
   simp only[apL,jC,jD,aW.d5,C.I_i,C.L_l,jW,ltL hi,decide_true,jR,jX,jY,getD_map' Cp.e hi,rows,List.length_cons,List.length_nil,Nat.zero_add,hn,hs,w1 hi (show q.length<big by simp only[big];omega),List.take_succ_eq_append_getElem hi,List.map_append]
   rfl)
  (by simp[aW.d5]) q.length 0 rfl
 simp only[Int.natCast_zero,List.take_zero,List.map_nil,List.take_length] at h2
 simp only[aW,aW.d8,Fl.e,apL,jC,jD,show ao=([]:List (List C)) from rfl,h,aC,aW.d7,C.L_l,h2,aW.d6,jV]
theorem uM:gB f.e=some [.l ((fj f).map sE)]:=by
 have h3:=fA hz
 simp only[Fl.e] at h3
 simp only[gB,gB.d1,Fl.e,apL,jC,jD,h3,ad,jI,C.B_b,fj]
 cases hv:bP f with
 |false=>rfl
 |true=>
  have hq:=so hz (gU hv)
  simp only[Fl.e] at hq
  simp only[jZ,jS,jR,hq,jI,jC,C.L_l,jV]
end
end Go.Ev
namespace Go.Ev
def E6 {α:Type} (lt:α→α→Bool):List α→List α→Int
 |[],[]=>0
 |[],_::_=>-1
 |_::_,[]=>1
 |x::a,y::b=>bif lt x y then-1 else bif lt y x then 1 else E6 lt a b
def ltI (x y:Int):Bool:=decide (x<y)
end Go.Ev
namespace Go.Ev
def Ju (c:Cp) (b:Bt) (d:Cp):Bool:=sEq d.at_ b.name&&decide (d.rank<c.rank)
def Fv (f:Fl) (c:Cp) (b:Bt):List Cp:=f.cps.filter (Ju c b)
def Jq (set i:Nat):Bool:=set/2^i%2==1
def HJ (l:List Cp) (set:Nat):Nat→List Cp
 |0=>[]
 |i+1=>match l[i]? with
  |some d=>bif Jq set i then HJ l set i++[d] else HJ l set i
  |none=>HJ l set i
def Ks (f:Fl) (c:Cp) (b:Bt) (set:Nat):List Str:=(HJ (Fv f c b) set (Fv f c b).length).map Cp.name
structure yW (f:Fl) (l:List Str):Prop where
 len:l.length≤f.cps.length
 mem:∀s,s∈l→∃d,d∈f.cps∧d.name=s
theorem lB {f:Fl} (hu:tZ f.cps) {d:Cp} (hd:d∈f.cps):∃k,∃hk:k<f.cps.length,cIx f d.name=(k:Nat)∧f.cps[k]=d:=by
 rcases IZ f d.name with h|⟨k,hk,h,e⟩
 ·have:=oj _ _ _ h
  have h2:f.cps.any (fun x:Cp=>sEq x.name d.name)=true:=List.any_eq_true.2 ⟨d,hd,(bV _ _).2 rfl⟩
  rw[this] at h2;cases h2
 ·exact ⟨k,hk,h,rJ hu (List.getElem_mem hk) hd e⟩
theorem yW.sz {f:Fl} {l:List Str} (h:yW f l) (hz:f.Sz 1048576):BD 1048576 l:=by
 refine ⟨Nat.le_trans h.len hz.2.2.1,fun s hs=>?_⟩
 obtain ⟨d,hd,rfl⟩:=h.mem s hs
 exact (hz.2.2.2 d hd).1
theorem yW.ix {f:Fl} {l:List Str} (h:yW f l) (hu:tZ f.cps):∀j (hj:j<l.length),∃k,∃hk:k<f.cps.length,cIx f l[j]=(k:Nat)∧sEq f.cps[k].name l[j]=true:=by
 intro j hj
 obtain ⟨d,hd,e⟩:=h.mem l[j] (List.getElem_mem hj)
 obtain ⟨k,hk,h1,h2⟩:=lB hu hd
 exact ⟨k,hk,by rw[←e];exact h1,by rw[h2,e];exact (bV _ _).2 rfl⟩
theorem yW.there {f:Fl} {l:List Str} (h:yW f l) (hu:tZ f.cps):aK (FJ f l) 0 l.length=true:=by
 rw[dx]
 intro j _ hj
 have hj:j<l.length:=by omega
 obtain ⟨k,hk,h1,_⟩:=h.ix hu j hj
 rw[FJ,gj hj,h1]
 simp
def uG (f:Fl) (l:List Str):List Int:=IW (HO f l)
def JB (f:Fl) (l best:List Str):Bool:=decide (0<E6 ltI (uG f l) (uG f best))||(E6 ltI (uG f l) (uG f best)==0&&decide (0≤E6 sLt l best))
def J3 (f:Fl) (c:Cp) (b:Bt) (l:List Str):Bool:=JN f l&&(cS (goF f l) c b false==0)
def JU (f:Fl) (c:Cp) (b:Bt) (st:Option (List Str)) (l:List Str):Option (List Str):=
 bif (match st with|some best=>JB f l best|none=>false) then st else bif J3 f c b l then some l else st
def vic (f:Fl) (c:Cp) (b:Bt):Nat→Option (List Str)
 |0=>none
 |k+1=>JU f c b (vic f c b k) (Ks f c b k)
end Go.Ev
namespace Go.Ev
section
variable {f:Fl} (hz:f.Sz 1048576) {c:Cp} (hc:c.Sz 1048576) {b:Bt} (hb:b.Sz 1048576) (hbo:dq b=true) (hv:bP f=true) (hr:0≤c.room∧c.room≤1000) (hh:0≤c.hold∧c.hold≤1000)
include hz hc hb hbo hv hr hh
def Jj (f:Fl) (c:Cp) (b:Bt):Option (List Str):=vic f c b (2^(Fv f c b).length)
end
end Go.Ev
namespace Go.Ev
section
variable {f:Fl} (hz:f.Sz 1048576) {c:Cp} (hc:c.Sz 1048576) {b:Bt} (hb:b.Sz 1048576) (hbo:dq b=true) (hv:bP f=true) (hr:0≤c.room∧c.room≤1000) (hh:0≤c.hold∧c.hold≤1000) (ha:0≤c.apart∧c.apart≤2)
include hz hc hb hbo hv hr hh ha
end
end Go.Ev
namespace Go.Ev
section
variable {f:Fl} (hz:f.Sz 1048576) (cn bn:Str)
include hz
end
end Go.Ev
namespace Go.Ev
theorem E1 {f:Fl} (h:bP f=true) (d i:Nat) (hj:i+d+1<f.bts.length):sLt (f.bts[i]'(by omega)).name f.bts[i+d+1].name=true:=by
 refine Cg (lt:=fun a b:Bt=>sLt a.name b.name) (fun a b c=>jm) (fun i hi=>?_) d i hj
 simp only[bP,Bool.and_eq_true] at h
 have:=(dx _ _ _).1 h.2.2.2.2.2.1 (i+1) (Nat.zero_le _) (by omega)
 have hi':i<f.bts.length:=by omega
 have e:(i+1==0)=false:=rfl
 simp only[btA,List.getElem?_eq_getElem hi,Nat.add_sub_cancel,List.getElem?_eq_getElem hi',e,Bool.false_or,Bool.and_eq_true] at this
 exact this.2
theorem nj {f:Fl} (h:bP f=true) {b:Bt} (hb:b∈f.bts):∃k,∃hk:k<f.bts.length,bIx f b.name=(k:Nat)∧f.bts[k]=b:=by
 have key:∀(i k:Nat) (hi:i<f.bts.length) (hk:k<f.bts.length),i<k→sEq f.bts[i].name f.bts[k].name=true→False:=by
  intro i k hi hk hlt he
  obtain ⟨d,rfl⟩:∃d,k=i+d+1:=⟨k-i-1,by omega⟩
  have:=E1 h d i hk
  rw[(bV _ _).1 he,Am] at this
  exact absurd this (by decide)
 rcases zR f b.name with h1|⟨k,hk,h1,e⟩
 ·have:=oj _ _ _ h1
  have h2:f.bts.any (fun x:Bt=>sEq x.name b.name)=true:=List.any_eq_true.2 ⟨b,hb,(bV _ _).2 rfl⟩
  rw[this] at h2;cases h2
 ·obtain ⟨j,hj,rfl⟩:=List.getElem_of_mem hb
  refine ⟨k,hk,h1,?_⟩
  rcases Nat.lt_trichotomy k j with q|q|q
  ·exact (key k j hk hj q e).elim
  ·subst q;rfl
  ·exact (key j k hj hk q (by rw[fL];exact e)).elim
abbrev FSt:=Option (Bt×List Str)
def Jv (f:Fl) (c:Cp) (b:Bt) (l:List Str) (b0:Bt) (l0:List Str):Bool:=
 decide (0<E6 ltI (uG f l) (uG f l0))||(E6 ltI (uG f l) (uG f l0)==0&&!better f.pack (eB (goF f l) c b) (eB (goF f l0) c b0))
def HU (f:Fl) (c:Cp) (st:FSt) (b:Bt):FSt:=match Jj f c b with
 |none=>st
 |some l=>match st with
  |none=>some (b,l)
  |some (b0,l0)=>bif Jv f c b l b0 l0 then st else some (b,l)
def force (f:Fl) (c:Cp):Nat→FSt
 |0=>none
 |i+1=>match f.bts[i]? with|some b=>HU f c (force f c i) b|none=>force f c i
theorem ce (c:Cp):c.e=[.s c.name,.s c.svc,.i c.rank,.i c.born,.i c.room,.i c.hold,.s c.sel,.l (c.likes.map Lk.e),.i c.apart,.s c.near,.s c.fixed,.s c.at_]:=rfl
theorem be (b:Bt):b.e=[.s b.name,.s b.zone,.l (b.marks.map sE),.i b.room,.i b.hold,.b b.shut]:=rfl
theorem fe (f:Fl):f.e=[.b f.pack,.l (f.bts.map Bt.e),.l (f.svs.map Sv.e),.l (f.cps.map Cp.e)]:=rfl
section
variable {f:Fl} (hz:f.Sz 1048576) {c:Cp} (hc:c.Sz 1048576) (hv:bP f=true) (hr:0≤c.room∧c.room≤1000) (hh:0≤c.hold∧c.hold≤1000) (ha:0≤c.apart∧c.apart≤2)
include hz hc hv hr hh ha
end
end Go.Ev
namespace Go.Ev
theorem yq {α β:Type} {q:List β} {g:β→Option α} {out:α→List C} {body:List C→R} {S:Nat→List C} {b:Nat} {ys:List C}
  (hs:∀i (h:i<q.length),body (S i)=match g q[i] with|some x=>some (.ret (out x))|none=>some (.again (S (i+1)))) (he:body (S q.length)=some (.brk b ys)):
  ∀k i,k+i=q.length→lim body (S i)=match (q.drop i).findSome? g with|some x=>some (.ret (out x))|none=>some (.brk b ys)
 |0,i,h=>by
  have:i=q.length:=by omega
  subst this
  rw[aQ he,List.drop_length];rfl
 |k+1,i,h=>by
  have hi:i<q.length:=by omega
  have hb:=hs i hi
  rw[List.drop_eq_getElem_cons hi,List.findSome?_cons]
  cases hg:g q[i] with
  |some x=>rw[hg] at hb;rw[ml hb]
  |none=>rw[hg] at hb;rw[aG hb,yq hs he k (i+1) (by omega)]
abbrev Stp:=Str×Str×List Str
def sA (f:Fl) (c:Cp):Option Stp:=bif sEq (dp f c) (mkS []) then none else some (c.name,dp f c,[])
def HR (r:Option Stp):List C:=match r with|some (a,b,l)=>[.s a,.s b,.b true,.l (l.map sE)]|none=>[.s (mkS []),.s (mkS []),.b false,.l []]
def IX (x:Stp):List C:=[.s x.1,.s x.2.1,.b true,.l (x.2.2.map sE)]
section
variable {f:Fl} (hz:f.Sz 1048576) (hv:bP f=true)
include hz hv
theorem sK:ej f.e=some (HR ((queue f).findSome? (sA f))):=by
 have hq:=so hz (gU hv)
 have hql:(queue f).length≤60:=by
  rw[(jn f).length_eq]
  exact Nat.le_trans (List.length_filter_le _ _) (gU hv).n60
 have hqm:∀x,x∈queue f→x∈f.cps:=fun x hx=>(lp hx).1
 generalize queue f=q at hq hql hqm⊢
 have hlb:q.length<big:=by simp only[big];omega
 have h1:=yq (q:=q) (g:=sA f) (out:=IX) (body:=ap9 ej.d1) (S:=fun i=>[C.i (i:Nat)]++f.e++[C.s (mkS []),C.s (mkS []),C.l ((q.map Cp.name).map sE),C.l []]) (b:=0) (ys:=[C.s (mkS []),C.s (mkS []),C.l []])
  (fun i hi=>by
   have m:=hqm _ (List.getElem_mem hi)
   have hi':i<(q.map Cp.name).length:=by simpa using hi
   have hgn:((q.map Cp.name).map sE).getD i []=sE q[i].name:=by rw[getD_map' sE hi'];simp
   obtain ⟨k,hk,k1,k2⟩:=lB (j6 hv) m
   have hcix:=pS f q[i].name hz.2.2.1
   rw[k1] at hcix
   have hC:=yc hz (hz.2.2.2 _ m) (gU hv) (kX (gU hv) _ m) (kQ (gU hv) _ m) (vS (gU hv) _ m)
   have q0:((dp f q[i]).toList==(bs #[]).toList)=sEq (dp f q[i]) (mkS []):=rfl
   simp only[fe,ce,jA,jB] at hC hcix
   simp only[fe,jA,jB,apL,jC,jD,ej.d1,C.I_i,C.L_l,jW,ltL hi,decide_true,jR,jX,jY,hgn,w1 hi hlb]
   simp only[sE,jC,hcix,ad,jI,C.I_i,jX,decide_true,jR,ltL hk,jY,getD_map' Cp.e hk,k2]
   simp only[ce,jC,jD,hC,jI,C.S_s,q0,sA,IX]
   cases sEq (dp f q[i]) (mkS [])<;>simp[sE])
  (by simp[ej.d1,fe]) q.length 0 rfl
 simp only[fe] at hq
 simp only[fe,jA,jB,Int.natCast_zero,List.drop_zero] at h1
 simp only[ej,ej.d3,fe,apL,jC,jD,hq,ad,jI,C.L_l,show ao=([]:List (List C)) from rfl,show bs #[]=mkS [] from rfl,h1]
 cases q.findSome? (sA f) with
 |some x=>simp[HR,IX]
 |none=>simp[ej.d2,HR,show bs #[]=mkS [] from rfl]
end
def nxA (r:Option Stp):Str:=match r with|some x=>x.1|none=>mkS []
def nxB (r:Option Stp):Str:=match r with|some x=>x.2.1|none=>mkS []
def nxG (r:Option Stp):List Str:=match r with|some x=>x.2.2|none=>[]
theorem DH (r:Option Stp):HR r=[.s (nxA r),.s (nxB r),.b r.isSome,.l ((nxG r).map sE)]:=by cases r<;>rfl
end Go.Ev
namespace Go.Ev
def atP (nm:Str) (x:Cp):Bool:=sEq x.at_ nm
theorem B1 {l:List Cp} (nm:Str) (hl:∀x,x∈l→0≤x.room∧x.room≤1000) (h60:l.length≤60):∀i,i≤l.length→lC l nm i=cy (atP nm) Cp.room l i
 |0,_=>by simp[lC,cy]
 |i+1,h=>by
  have hi:i<l.length:=by omega
  have ih:=B1 nm hl h60 i (by omega)
  have hb:=kP (atP nm) Cp.room hl i (by omega)
  have hx:=hl _ (List.getElem_mem hi)
  simp only[lC,List.getElem?_eq_getElem hi,ih]
  rw[nq (atP nm) Cp.room hi]
  show (bif atP nm l[i] then w64 (cy (atP nm) Cp.room l i+l[i].room) else cy (atP nm) Cp.room l i)=_
  cases atP nm l[i] with
  |true=>simp only[jR];rw[aP (by omega) (by omega)]
  |false=>simp
theorem A8 {l:List Cp} (nm:Str) (hl:∀x,x∈l→0≤x.hold∧x.hold≤1000) (h60:l.length≤60):∀i,i≤l.length→lR l nm i=cy (atP nm) Cp.hold l i
 |0,_=>by simp[lR,cy]
 |i+1,h=>by
  have hi:i<l.length:=by omega
  have ih:=A8 nm hl h60 i (by omega)
  have hb:=kP (atP nm) Cp.hold hl i (by omega)
  have hx:=hl _ (List.getElem_mem hi)
  simp only[lR,List.getElem?_eq_getElem hi,ih]
  rw[nq (atP nm) Cp.hold hi]
  show (bif atP nm l[i] then w64 (cy (atP nm) Cp.hold l i+l[i].hold) else cy (atP nm) Cp.hold l i)=_
  cases atP nm l[i] with
  |true=>simp only[jR];rw[aP (by omega) (by omega)]
  |false=>simp
theorem sX (l:List Cp) (nm:Str):∀i,i≤l.length→eC l nm i=fp (atP nm) l i
 |0,_=>by simp[eC,fp]
 |i+1,h=>by
  have hi:i<l.length:=by omega
  have ih:=sX l nm i (by omega)
  simp only[eC,List.getElem?_eq_getElem hi,ih,tO (atP nm) hi]
  show (bif atP nm l[i] then _ else _)=_
  cases atP nm l[i]<;>simp
def fk (p:Cp→Bool) (g:Cp→Int) (l:List Cp):Int:=(l.map fun x=>bif p x then g x else 0).sum
theorem hD (p:Cp→Bool) (g:Cp→Int) (l:List Cp):cy p g l l.length=fk p g l:=by simp[cy,fk]
theorem kq (p:Cp→Bool) (l:List Cp):((fp p l l.length:Nat):Int)=fk p (fun _=>1) l:=by
 simp only[fp,List.take_length,fk]
 induction l with
 |nil=>rfl
 |cons x r ih=>
  simp only[List.countP_cons,List.map_cons,List.sum_cons,←ih]
  cases p x<;>simp<;>omega
theorem zr {p q:Cp→Bool} {g:Cp→Int}:∀ {l m:List Cp},l.length=m.length→(∀i (h1:i<l.length) (h2:i<m.length),(bif p l[i] then g l[i] else 0)≤(bif q m[i] then g m[i] else 0))→fk p g l≤fk q g m
 |[],[],_,_=>Int.le_refl _
 |[],_::_,h,_=>by simp at h
 |_::_,[],h,_=>by simp at h
 |x::l,y::m,hl,h=>by
  have h0:=h 0 (by simp) (by simp)
  have ih:=zr (p:=p) (q:=q) (g:=g) (l:=l) (m:=m) (by simpa using hl) fun i h1 h2=>by
   have:=h (i+1) (by simpa using h1) (by simpa using h2)
   simpa using this
  simp only[fk,List.map_cons,List.sum_cons] at*
  simp only[List.getElem_cons_zero] at h0
  omega
theorem xp {p:Cp→Bool} {g:Cp→Int}:∀ {l:List Cp} {i:Nat} (h:i<l.length) (y:Cp),fk p g (l.set i y)=fk p g l-(bif p l[i] then g l[i] else 0)+(bif p y then g y else 0)
 |x::l,0,_,y=>by simp only[List.set_cons_zero,fk,List.map_cons,List.sum_cons,List.getElem_cons_zero];omega
 |x::l,i+1,h,y=>by
  have ih:=xp (p:=p) (g:=g) (l:=l) (i:=i) (by simpa using h) y
  simp only[List.set_cons_succ,fk,List.map_cons,List.sum_cons,List.getElem_cons_succ] at*
  omega
structure VF (f:Fl):Prop where
 n12:f.bts.length≤12
 n30:f.svs.length≤30
 n60:f.cps.length≤60
 sv:aK (svA f) 0 f.svs.length=true
 cp:∀i (h:i<f.cps.length),gI f.cps[i]=true∧f.svs.any (fun s=>sEq s.name f.cps[i].svc)=true∧(∀h':0<i,sLt (f.cps[i-1]'(by omega)).name f.cps[i].name=true)∧(sEq f.cps[i].at_ (mkS [])=true∨f.bts.any (fun b=>sEq b.name f.cps[i].at_)=true)
 bt:aK (btA f) 0 f.bts.length=true
 fit:∀b,b∈f.bts→fk (atP b.name) Cp.room f.cps≤b.room∧fk (atP b.name) Cp.hold f.cps≤b.hold∧fk (atP b.name) (fun _=>1) f.cps≤10
theorem DP {f:Fl} (hv:VB f) {b:Bt} (hb:b∈f.bts):used f b.name=(fk (atP b.name) Cp.room f.cps,fk (atP b.name) Cp.hold f.cps):=by
 have h1:=B1 b.name (kX hv) hv.n60 f.cps.length (Nat.le_refl _)
 have h2:=A8 b.name (kQ hv) hv.n60 f.cps.length (Nat.le_refl _)
 rw[hD] at h1 h2
 have hx:¬bIx f b.name<0:=by
  rcases zR f b.name with h|⟨k,hk,h,_⟩
  ·have:=oj _ _ _ h
   have h3:f.bts.any (fun x:Bt=>sEq x.name b.name)=true:=List.any_eq_true.2 ⟨b,hb,(bV _ _).2 rfl⟩
   rw[this] at h3;cases h3
  ·omega
 have hn:sEq b.name (mkS [])=false:=gE (hv.bb b hb)
 simp only[used,hn,hx,decide_false,Bool.or_self,jS,h1,h2]
theorem Dk {f:Fl} (h:bP f=true):VF f:=by
 have hv:=gU h
 have h0:=h
 simp only[bP,Bool.and_eq_true,decide_eq_true_eq] at h
 obtain ⟨a1,a2,a3,a4,a5,a6,a7⟩:=h
 refine ⟨a1,a2,a3,a4,fun i hi=>?_,a6,fun b hb=>?_⟩
 ·have:=(dx _ _ _).1 a5 i (Nat.zero_le _) (by omega)
  simp only[cpA,List.getElem?_eq_getElem hi,Bool.and_eq_true,Bool.or_eq_true] at this
  refine ⟨this.1,this.2.1,fun h'=>?_,this.2.2.2⟩
  rcases this.2.2.1 with q|q
  ·rw[beq_iff_eq] at q;omega
  ·have hi1:i-1<f.cps.length:=by omega
   rw[List.getElem?_eq_getElem hi1] at q
   exact q
 ·obtain ⟨i,hi,rfl⟩:=List.getElem_of_mem hb
  have:=(dx _ _ _).1 a7 i (Nat.zero_le _) (by omega)
  simp only[qX,List.getElem?_eq_getElem hi,Bool.and_eq_true,decide_eq_true_eq,DP hv hb] at this
  have hs:=kq (atP f.bts[i].name) f.cps
  rw[←sX f.cps _ f.cps.length (Nat.le_refl _)] at hs
  exact ⟨this.1,this.2.1,by omega⟩
theorem eV {f:Fl} (h:VF f):bP f=true:=by
 have hbb:∀b,b∈f.bts→dq b=true:=fun b hb=>by
  obtain ⟨i,hi,rfl⟩:=List.getElem_of_mem hb
  have:=(dx _ _ _).1 h.bt i (Nat.zero_le _) (by omega)
  simp only[btA,List.getElem?_eq_getElem hi,Bool.and_eq_true] at this
  exact this.1
 have hv:VB f:=by
  refine ⟨h.n60,fun x hx=>?_,hbb⟩
  obtain ⟨i,hi,rfl⟩:=List.getElem_of_mem hx
  have:=(h.cp i hi).1
  simp only[gI,within,Bool.and_eq_true,decide_eq_true_eq] at this
  exact ⟨this.2.2.2.1,this.2.2.2.2.1,this.2.2.2.2.2.2.1,this.2.1,this.2.2.1⟩
 simp only[bP,Bool.and_eq_true,decide_eq_true_eq]
 refine ⟨h.n12,h.n30,h.n60,h.sv,(dx _ _ _).2 fun i _ hi=>?_,h.bt,(dx _ _ _).2 fun i _ hi=>?_⟩
 ·have hi:i<f.cps.length:=by omega
  obtain ⟨c1,c2,c3,c4⟩:=h.cp i hi
  simp only[cpA,List.getElem?_eq_getElem hi,Bool.and_eq_true,Bool.or_eq_true,beq_iff_eq]
  refine ⟨c1,c2,?_,c4⟩
  rcases Nat.eq_zero_or_pos i with q|q
  ·exact .inl q
  ·have hi1:i-1<f.cps.length:=by omega
   rw[List.getElem?_eq_getElem hi1]
   exact .inr (c3 q)
 ·have hi:i<f.bts.length:=by omega
  have hb:=List.getElem_mem hi
  obtain ⟨c1,c2,c3⟩:=h.fit _ hb
  have hs:=kq (atP f.bts[i].name) f.cps
  rw[←sX f.cps _ f.cps.length (Nat.le_refl _)] at hs
  simp only[qX,List.getElem?_eq_getElem hi,Bool.and_eq_true,decide_eq_true_eq,DP hv hb]
  exact ⟨c1,c2,by omega⟩
theorem uE {f:Fl} (h:VF f) {i:Nat} (hi:i<f.cps.length) (hw:sEq f.cps[i].at_ (mkS [])=true) {b:Bt} (hb:b∈f.bts) (hf:cS f f.cps[i] b false=0):VF (setAt f i f.cps[i] b.name):=by
 have hv:=eV h
 have hu:=j6 hv
 have hvb:=gU hv
 have hl:(setAt f i f.cps[i] b.name).cps.length=f.cps.length:=by simp[setAt]
 have hg:∀k (h1:k<(setAt f i f.cps[i] b.name).cps.length) (h2:k<f.cps.length),(setAt f i f.cps[i] b.name).cps[k]=if i=k then {f.cps[i] with at_:=b.name} else f.cps[k]:=fun k h1 h2=>by
  simp only[setAt,List.getElem_set]
 have hbo:=hvb.bb b hb
 have hbn:=gE hbo
 have hon:∀x,x∈f.cps→onP f.cps[i] b x=atP b.name x:=fun x hx=>by
  unfold onP oth atP
  cases q:sEq x.at_ b.name with
  |false=>simp
  |true=>
   have q1:sEq x.at_ (mkS [])=false:=rM hbo _ q
   have q2:sEq x.name f.cps[i].name=false:=by
    cases q3:sEq x.name f.cps[i].name with
    |false=>rfl
    |true=>
     have:=rJ hu hx (List.getElem_mem hi) q3
     subst this
     rw[hw] at q1;cases q1
   simp[q1,q2]
 have hsum:∀w:Cp→Int,cy (onP f.cps[i] b) w f.cps f.cps.length=fk (atP b.name) w f.cps:=fun w=>by
  rw[hD]
  unfold fk
  congr 1
  exact List.map_congr_left fun x hx=>by rw[hon x hx]
 have hcnt:((fp (onP f.cps[i] b) f.cps f.cps.length:Nat):Int)=fk (atP b.name) (fun _=>1) f.cps:=by
  rw[kq,←hD,hsum]
 have hf3:fp (onP f.cps[i] b) f.cps f.cps.length<10∧¬b.room<cy (onP f.cps[i] b) Cp.room f.cps f.cps.length+f.cps[i].room∧¬b.hold<cy (onP f.cps[i] b) Cp.hold f.cps f.cps.length+f.cps[i].hold:=by
  unfold cS at hf
  cases q1:b.shut&&!false<;>rw[q1] at hf<;>simp only[jR,jS] at hf
  ·cases q2: !sEq f.cps[i].fixed (mkS [])&&!sEq f.cps[i].fixed b.name<;>rw[q2] at hf<;>simp only[jR,jS] at hf
   ·cases q3: !pg f.cps[i].sel b<;>rw[q3] at hf<;>simp only[jR,jS] at hf
    ·cases q4:f.cps.any (iH f f.cps[i] b)<;>rw[q4] at hf<;>simp only[jR,jS] at hf
     ·cases q5:mH f f.cps[i] b<;>rw[q5] at hf<;>simp only[jR,jS] at hf
      ·cases q6:decide (10≤fp (onP f.cps[i] b) f.cps f.cps.length)<;>rw[q6] at hf<;>simp only[jR,jS] at hf
       ·cases q7:decide (b.room<cy (onP f.cps[i] b) Cp.room f.cps f.cps.length+f.cps[i].room)<;>rw[q7] at hf<;>simp only[jR,jS] at hf
        ·cases q8:decide (b.hold<cy (onP f.cps[i] b) Cp.hold f.cps f.cps.length+f.cps[i].hold)<;>rw[q8] at hf<;>simp only[jR,jS] at hf
         ·simp only[decide_eq_false_iff_not] at q6 q7 q8
          exact ⟨by omega,q7,q8⟩
         ·omega
        ·omega
       ·omega
      ·omega
     ·omega
    ·omega
   ·omega
  ·omega
 obtain ⟨f1,f2,f3⟩:=hf3
 rw[hsum] at f2 f3
 refine ⟨h.n12,h.n30,by rw[hl];exact h.n60,h.sv,fun k hk=>?_,h.bt,fun b' hb'=>?_⟩
 ·have hk':k<f.cps.length:=by omega
  obtain ⟨c1,c2,c3,c4⟩:=h.cp k hk'
  have en:∀m (h1:m<(setAt f i f.cps[i] b.name).cps.length) (h2:m<f.cps.length),(setAt f i f.cps[i] b.name).cps[m].name=f.cps[m].name:=fun m h1 h2=>by
   rw[hg m h1 h2];split
   ·rename_i e;subst e;rfl
   ·rfl
  refine ⟨?_,?_,fun h'=>?_,?_⟩
  ·rw[hg k hk hk'];split
   ·rename_i e;subst e;exact c1
   ·exact c1
  ·rw[hg k hk hk'];split
   ·rename_i e;subst e;exact c2
   ·exact c2
  ·rw[en k hk hk',en (k-1) (by omega) (by omega)]
   exact c3 h'
  ·rw[hg k hk hk'];split
   ·exact .inr (List.any_eq_true.2 ⟨b,hb,(bV _ _).2 rfl⟩)
   ·exact c4
 ·obtain ⟨c1,c2,c3⟩:=h.fit b' hb'
  have hbo':=hvb.bb b' hb'
  have h0:atP b'.name f.cps[i]=false:=by
   unfold atP
   rw[(bV _ _).1 hw,fL]
   exact gE hbo'
  have hset:∀w:Cp→Int,(w {f.cps[i] with at_:=b.name}=w f.cps[i])→fk (atP b'.name) w (setAt f i f.cps[i] b.name).cps=fk (atP b'.name) w f.cps+(bif sEq b.name b'.name then w f.cps[i] else 0):=fun w he=>by
   show fk (atP b'.name) w (f.cps.set i _)=_
   rw[xp hi,h0,he]
   simp only[jS,atP]
   omega
  rw[hset Cp.room rfl,hset Cp.hold rfl,hset (fun _=>1) rfl]
  cases q:sEq b.name b'.name with
  |false=>simp only[jS,Int.add_zero];exact ⟨c1,c2,c3⟩
  |true=>
   have:b'=b:=by
    obtain ⟨j,hj,j1,j2⟩:=nj hv hb
    obtain ⟨j',hj',j1',j2'⟩:=nj hv hb'
    rw[(bV _ _).1 q,j1'] at j1
    have:j'=j:=by omega
    subst this
    rw[←j2,←j2']
   subst this
   simp only[jR]
   exact ⟨by omega,by omega,by omega⟩
end Go.Ev
namespace Go.Ev
end Go.Ev
namespace Go.Ev
theorem uD (f:Fl) (c:Cp):∀i,i≤f.bts.length→dF f c i=-1∨∃k,∃h:k<f.bts.length,dF f c i=(k:Nat)∧cS f c f.bts[k] false=0
 |0,_=>.inl rfl
 |i+1,h=>by
  have hi:i<f.bts.length:=by omega
  have ih:=uD f c i (by omega)
  simp only[dF,List.getElem?_eq_getElem hi]
  cases hq:cS f c f.bts[i] false==0 with
  |false=>simpa using ih
  |true=>
   simp only[Bool.true_and]
   cases u0 f c (dF f c i) f.bts[i] with
   |true=>exact .inr ⟨i,hi,rfl,by simpa using hq⟩
   |false=>exact ih
theorem wX {f:Fl} {c:Cp} (h:sEq (dp f c) (mkS [])=false):∃b,b∈f.bts∧dp f c=b.name∧cS f c b false=0:=by
 have h0:sEq (mkS []) (mkS [])=true:=(bV _ _).2 rfl
 rcases uD f c f.bts.length (Nat.le_refl _) with e|⟨k,hk,e,hf⟩
 ·have:dp f c=mkS []:=by
   unfold dp
   rw[e]
   split
   ·rfl
   ·rfl
  rw[this,h0] at h;cases h
 ·refine ⟨f.bts[k],List.getElem_mem hk,?_,hf⟩
  unfold dp
  rw[e,Int.toNat_natCast,List.getElem?_eq_getElem hk]
  exact if_neg (by omega)
def ku (f:Fl):Option Stp:=(queue f).findSome? (sA f)
def plF (f:Fl) (x:Stp):Fl:=match f.cps[(cIx f x.1).toNat]? with|some c=>setAt f (cIx f x.1).toNat c x.2.1|none=>f
structure po (f:Fl) (x:Stp) where
 i:Nat
 hi:i<f.cps.length
 b:Bt
 hb:b∈f.bts
 e:x=(f.cps[i].name,b.name,[])
 ix:cIx f f.cps[i].name=(i:Nat)
 w:sEq f.cps[i].at_ (mkS [])=true
 fit:cS f f.cps[i] b false=0
 put:plF f x=setAt f i f.cps[i] b.name
theorem lG {f:Fl} (hv:VF f) {x:Stp} (h:ku f=some x):Nonempty (po f x):=by
 obtain ⟨c,hc,hx⟩:=List.exists_of_findSome?_eq_some h
 unfold sA at hx
 cases hq:sEq (dp f c) (mkS []) with
 |true=>rw[hq] at hx;cases hx
 |false=>
  rw[hq] at hx
  obtain rfl:=Option.some.inj hx
  obtain ⟨hm,hw⟩:=lp hc
  obtain ⟨i,hi,e1,rfl⟩:=lB (j6 (eV hv)) hm
  obtain ⟨b,hb,e2,hf⟩:=wX hq
  refine ⟨⟨i,hi,b,hb,by rw[e2],e1,hw,hf,?_⟩⟩
  simp only[plF,e1,e2,Int.toNat_natCast,List.getElem?_eq_getElem hi]
theorem po.valid {f:Fl} {x:Stp} (F:po f x) (h:VF f):VF (plF f x):=by
 rw[F.put];exact uE h F.hi F.w F.hb F.fit
theorem po.sz {f:Fl} {x:Stp} (F:po f x) (hz:f.Sz 1048576):(plF f x).Sz 1048576:=by
 rw[F.put]
 exact Gd hz (hz.2.2.2 _ (List.getElem_mem F.hi)) (hz.1.2 _ F.hb).1 _
theorem po.less {f:Fl} {x:Stp} (F:po f x) (h:VF f):(waits (plF f x)).length+1≤(waits f).length:=by
 rw[F.put]
 have hn:cQ {f.cps[F.i]'F.hi with at_:=F.b.name}=false:=gE ((gU (eV h)).bb _ F.hb)
 have hw:cQ (f.cps[F.i]'F.hi)=true:=F.w
 have hp:0<f.cps.countP cQ:=List.countP_pos_iff.2 ⟨_,List.getElem_mem F.hi,hw⟩
 simp only[waits,setAt,←List.countP_eq_length_filter]
 rw[List.countP_set F.hi,hn,hw]
 simp
 omega
def stS (x:Stp):Sp:=⟨x.1,x.2.1,x.2.2⟩
def place:Nat→Fl→List Sp→Fl×List Sp
 |0,f,s=>(f,s)
 |k+1,f,s=>match ku f with
  |some x=>place k (plF f x) (s++[stS x])
  |none=>(f,s)
theorem oh {f:Fl} (h:ku f=none) (s:List Sp):∀k,place k f s=(f,s)
 |0=>rfl
 |k+1=>by simp only[place,h]
theorem B8 {f:Fl} (hv:VF f) (h:(waits f).length=0):ku f=none:=by
 cases hx:ku f with
 |none=>rfl
 |some x=>obtain ⟨F⟩:=lG hv hx;have:=F.less hv;omega
theorem AL:∀(k:Nat) (f:Fl) (s:List Sp),VF f→f.Sz 1048576→(∀x,x∈s→x.gone=[])→
  (place k f s).1.Sz 1048576∧(place k f s).2.length≤s.length+k∧∀x,x∈(place k f s).2→x.gone=[]
 |0,f,s,hv,hz,hs=>⟨hz,Nat.le_refl _,hs⟩
 |k+1,f,s,hv,hz,hs=>by
  cases hx:ku f with
  |none=>rw[oh hx];exact ⟨hz,Nat.le_add_right _ _,hs⟩
  |some x=>
   obtain ⟨F⟩:=lG hv hx
   have:=AL k (plF f x) (s++[stS x]) (F.valid hv) (F.sz hz) (fun y hy=>by
    rcases List.mem_append.1 hy with h|h
    ·exact hs y h
    ·rw[List.mem_singleton.1 h,stS,F.e])
   simp only[place,hx]
   simp only[List.length_append,List.length_cons,List.length_nil] at this
   exact ⟨this.1,by omega,this.2.2⟩
theorem tX {body:List C→R} {S T:Fl→List Sp→List C} {o:List C→Out} (ho:∀ys,(o ys).stops)
  (hs:∀(f:Fl) (s:List Sp),VF f→f.Sz 1048576→s.length≤60→∀x,ku f=some x→∀F:po f x,body (S f s)=some (.again (S (plF f x) (s++[stS x]))))
  (he:∀(f:Fl) (s:List Sp),VF f→f.Sz 1048576→s.length≤60→ku f=none→body (S f s)=some (o (T f s))):
  ∀(k:Nat) (f:Fl) (s:List Sp),VF f→f.Sz 1048576→(waits f).length≤k→s.length+k≤60→lim body (S f s)=some (o (T (place k f s).1 (place k f s).2))
 |k,f,s,hv,hz,hk,hl=>by
  cases hx:ku f with
  |none=>rw[oh hx,o0 (he f s hv hz (by omega) hx) (ho _)]
  |some x=>
   obtain ⟨F⟩:=lG hv hx
   have h1:=F.less hv
   cases k with
   |zero=>omega
   |succ k=>
    rw[aG (hs f s hv hz (by omega) x hx F),tX ho hs he k (plF f x) (s++[stS x]) (F.valid hv) (F.sz hz) (by omega) (by simp;omega)]
    simp only[place,hx]
end Go.Ev
namespace Go.Ev
theorem Da (g:Nat) (ys:List C):goA g (some (.brk g ys))=some (.again ys):=by
 show sif (Nat.beq g g) _ _=_
 rw[Nat.beq_refl];rfl
theorem CA {g:Nat} {f:List C→R} {xs:List C} (h:∀j ys,f xs=some (.brk j ys)→j=g) (h2:f xs≠none) (h3:∀ys,f xs≠some (.again ys)):qW g (f xs) f=lim (fun xs=>goA g (f xs)) xs:=by
 cases hr:f xs with
 |none=>exact absurd hr h2
 |some o=>cases o with
  |brk j ys=>
   obtain rfl:=h j ys hr
   have e:(fun xs=>goA j (f xs)) xs=some (.again ys):=by show goA j (f xs)=_;rw[hr,Da]
   rw[aG e]
   show sif (Nat.beq j j) _ _=_
   rw[Nat.beq_refl];rfl
  |ret ys=>
   have e:(fun xs=>goA g (f xs)) xs=some (.ret ys):=by show goA g (f xs)=_;rw[hr];rfl
   rw[ml e];rfl
  |nrm ys=>
   have e:(fun xs=>goA g (f xs)) xs=some (.nrm ys):=by show goA g (f xs)=_;rw[hr];rfl
   rw[o0 (body:=fun xs=>goA g (f xs)) (o:=.nrm ys) e trivial];rfl
  |again ys=>exact absurd hr (h3 ys)
theorem vP {α β:Type} {q:List β} {g:β→Option α} {out:α→Out} (ho:∀x,(out x).stops) {body:List C→R} {S:Nat→List C} {b:Nat} {ys:List C}
  (hs:∀i (h:i<q.length),body (S i)=match g q[i] with|some x=>some (out x)|none=>some (.again (S (i+1)))) (he:body (S q.length)=some (.brk b ys)):
  ∀k i,k+i=q.length→lim body (S i)=match (q.drop i).findSome? g with|some x=>some (out x)|none=>some (.brk b ys)
 |0,i,h=>by
  have:i=q.length:=by omega
  subst this
  rw[aQ he,List.drop_length];rfl
 |k+1,i,h=>by
  have hi:i<q.length:=by omega
  have hb:=hs i hi
  rw[List.drop_eq_getElem_cons hi,List.findSome?_cons]
  cases hg:g q[i] with
  |some x=>rw[hg] at hb;rw[o0 hb (ho x)]
  |none=>rw[hg] at hb;rw[aG hb,vP ho hs he k (i+1) (by omega)]
section
variable {f:Fl} (hz:f.Sz 1048576)
include hz
theorem zV (hv:VB f) (hu:tZ f.cps):dX f.e=some [.l (f.bts.map Bt.e),.l (f.svs.map Sv.e),.l (f.cps.map Cp.e),.l ((queue f).map Cp.e)]:=by
 have hlc:f.cps.length<big:=by have:=hz.2.2.1;simp only[big];omega
 have h:=cD (body:=ap6 dX.d2) (S:=fun i=>[C.i (f.cps.length:Nat),C.i (i:Nat),C.l (f.bts.map Bt.e),C.l (f.svs.map Sv.e),C.l (f.cps.map Cp.e),C.l (((f.cps.take i).filter cQ).map Cp.e)]) (n:=f.cps.length) (b:=0) (ys:=[C.l (f.bts.map Bt.e),C.l (f.svs.map Sv.e),C.l (f.cps.map Cp.e),C.l (((f.cps.take f.cps.length).filter cQ).map Cp.e)])
  (fun i hi=>by
   have hn:((f.cps.take i).filter cQ).length+1≤4294967296:=by have:=yo f i;have:=hv.n60;omega
   have q0:(((f.cps[i].e.getD 11 C.nil).S).toList==(bs #[]).toList)=cQ f.cps[i]:=rfl
   have hr:∀c:Cp,[c.e.getD 0 .nil,c.e.getD 1 .nil,c.e.getD 2 .nil,c.e.getD 3 .nil,c.e.getD 4 .nil,c.e.getD 5 .nil,c.e.getD 6 .nil,c.e.getD 7 .nil,c.e.getD 8 .nil,c.e.getD 9 .nil,c.e.getD 10 .nil,c.e.getD 11 .nil]=c.e:=fun c=>rfl
   simp only[apL,jC,jD,dX.d2,C.I_i,C.L_l,jW,ltL hi,decide_true,jR,jX,jY,getD_map' Cp.e hi,q0,wu f hi,rows,List.length_cons,List.length_nil,Nat.zero_add,hn,hr]
   cases cQ f.cps[i]<;>simp[dX.d1,w1 hi hlc])
  (by simp[dX.d2]) f.cps.length 0 rfl
 simp only[Int.natCast_zero,List.take_zero,List.filter_nil,List.map_nil,List.take_length] at h
 have hw:∀x,x∈waits f→x∈f.cps:=fun x h=>(List.mem_filter.1 h).1
 have hq:∀x,x∈waits f→AD x.rank x.born=true:=fun x h=>by
  have:=hv.cb x (hw x h)
  rw[AO];exact ⟨this.2.2.2.1,this.2.2.2.2⟩
 have hlt:∀x y,x∈waits f→y∈waits f→ltR gn x.e y.e=ahd x y:=fun x y hx hy=>
  l8 pL ⟨⟨_,_,_,_,_,_,_,_,_,rfl⟩,hq x hx⟩ ⟨⟨_,_,_,_,_,_,_,_,_,rfl⟩,hq y hy⟩
 have hS:ep [.l ((waits f).map Cp.e)]=some [.l ((queue f).map Cp.e)]:=by
  have hl:(waits f).length≤4294967296:=by
   have:=List.length_filter_le cQ f.cps
   have:=hv.n60
   unfold waits;omega
  have ha:((waits f).map Cp.e).all cpQ=true:=by
   rw[List.all_map,List.all_eq_true]
   intro x hx
   exact hq x hx
  have hp:nI (ltR gn) ((waits f).map Cp.e)=true:=DX hq ((FV hu).sublist List.filter_sublist) hlt
  have hm:fX gn ((waits f).map Cp.e)=(queue f).map Cp.e:=by
   rw[fX,←List.map_mergeSort (r:=fun x y:Cp=>!ahd y x) (s:=fun x y=>!ltR gn y x) (f:=Cp.e) (fun x hx y hy=>by rw[hlt y x hy hx]),CS hu]
  simp only[ep,xB,jC,C.L_l,jW,hl,decide_true,ha,hp,Bool.and_self,jR,hm]
 simp only[dX,dX.d4,Fl.e,apL,jC,jD,C.L_l,jW,show ao=([]:List (List C)) from rfl,h,aC,dX.d3]
 rw[show (f.cps.filter cQ)=waits f from rfl,hS]
 simp[ad]
end
def plS (f:Fl) (s:List Sp):List C:=[.b f.pack,.l (f.bts.map Bt.e),.l (f.svs.map Sv.e),.l (f.cps.map Cp.e),.l (s.map Sp.e)]
section
variable {f:Fl} {s:List Sp} (hv:VF f) (hz:f.Sz 1048576) (hs:s.length≤60)
include hv hz hs
theorem oz:ap5 cH.d3 (plS f s)=match ku f with|some x=>some (.brk 1000000 (plS (plF f x) (s++[stS x])))|none=>some (.ret (plS f s)):=by
 have hV:=eV hv
 have hvb:=gU hV
 have hq:=zV hz hvb (j6 hV)
 have hql:(queue f).length≤60:=by
  rw[(jn f).length_eq]
  exact Nat.le_trans (List.length_filter_le _ _) hvb.n60
 have hqm:∀x,x∈queue f→x∈f.cps:=fun x hx=>(lp hx).1
 unfold ku
 generalize queue f=q at hq hql hqm⊢
 have hlb:q.length<big:=by simp only[big];omega
 have h1:=vP (q:=q) (g:=sA f) (out:=fun x=>Out.brk 1000000 (plS (plF f x) (s++[stS x]))) (fun _=>trivial) (body:=ap8 cH.d1) (S:=fun i=>[C.i (q.length:Nat),C.i (i:Nat)]++f.e++[C.l (s.map Sp.e),C.l (q.map Cp.e)]) (b:=0) (ys:=plS f s)
  (fun i hi=>by
   have m:=hqm _ (List.getElem_mem hi)
   have hC:=zz hz (hz.2.2.2 _ m) hvb (kX hvb _ m) (kQ hvb _ m) (vS hvb _ m)
   have q0:((dp f q[i]).toList==(bs #[]).toList)=sEq (dp f q[i]) (mkS []):=rfl
   obtain ⟨k,hk,k1,k2⟩:=lB (j6 hV) m
   have hcix:=zP f q[i].name hz.2.2.1
   rw[k1] at hcix
   have hn:s.length+1≤4294967296:=by omega
   have hp:plF f (q[i].name,dp f q[i],[])=setAt f k q[i] (dp f q[i]):=by
    simp only[plF,k1,Int.toNat_natCast,List.getElem?_eq_getElem hk,k2]
   simp only[fe,ce,jA,jB] at hC hcix
   simp only[fe,jA,jB,apL,jC,jD,cH.d1,C.I_i,C.L_l,jW,ltL hi,decide_true,jR,jX,jY,getD_map' Cp.e hi,w1 hi hlb]
   simp only[ce,jC,jD,hC,ad,jI,C.S_s,q0,sA]
   cases sEq (dp f q[i]) (mkS []) with
   |true=>rfl
   |false=>
    simp only[ja,jR,jS,hcix,jI,jC,C.I_i,jX,decide_true,ltL hk,jY,getD_map' Cp.e hk,k2,rows,List.length_cons,List.length_nil,Nat.zero_add,hn]
    rw[hp]
    simp[plS,setAt,stS,Sp.e,List.map_set,Cp.e,aL,ao])
  (by simp[cH.d1,fe,plS]) q.length 0 rfl
 simp only[fe,jA,jB] at hq
 simp only[fe,jA,jB,Int.natCast_zero,List.drop_zero] at h1
 have e0:ap5 cH.d3 (plS f s)=ai 0 (lim (ap8 cH.d1) [C.i (q.length:Nat),C.i 0,C.b f.pack,C.l (f.bts.map Bt.e),C.l (f.svs.map Sv.e),C.l (f.cps.map Cp.e),C.l (s.map Sp.e),C.l (q.map Cp.e)]) (ap5 cH.d2):=by
  simp only[plS,apL,jC,jD,cH.d3,C.L_l,hq,call4,jI,jW]
 rw[e0,h1]
 cases q.findSome? (sA f) with
 |some x=>rfl
 |none=>simp only[aC];rfl
theorem zZ {x:Stp} (hx:ku f=some x) (F:po f x) (r:Option Stp) (hr:r=ku (plF f x)):
  oQ bX.d1 [.b true,.b false,.l (s.map Sp.e),.b f.pack,.s x.1,.s x.2.1,.l [],.l [],.l [],.l (f.bts.map Bt.e),.l (f.svs.map Sv.e),.l (f.cps.map Cp.e),.l (x.2.2.map sE)]
   =some (.again [.b r.isSome,.b false,.l ((s++[stS x]).map Sp.e),.b (plF f x).pack,.s (nxA r),.s (nxB r),.l [],.l [],.l [],.l ((plF f x).bts.map Bt.e),.l ((plF f x).svs.map Sv.e),.l ((plF f x).cps.map Cp.e),.l ((nxG r).map sE)]):=by
 subst hr
 have hF:=sK (F.sz hz) (eV (F.valid hv))
 have hn:s.length+1≤4294967296:=by omega
 rw[show (queue (plF f x)).findSome? (sA (plF f x))=ku (plF f x) from rfl,DH] at hF
 generalize ku (plF f x)=r at hF⊢
 obtain ⟨i,hi,b,hb,e,ix,w,fit,hp⟩:=F
 have hcix:=pS f f.cps[i].name hz.2.2.1
 rw[ix] at hcix
 generalize plF f x=f' at hp hF⊢
 subst e
 subst hp
 have hc:(setAt f i f.cps[i] b.name).cps.map Cp.e=(f.cps.map Cp.e).set i (aL (f.cps[i].e) 11 [.s b.name]):=by
  simp[setAt,List.map_set,Cp.e,aL]
 rw[hc]
 simp only[fe,hc] at hF
 simp only[setAt] at hF⊢
 simp only[fe,jA,jB] at hcix
 simp only[apL,jC,jD,bX.d1,C.B_b,jR,C.L_l,hcix,ad,jI,C.I_i,jX,decide_true,jW,ltL hi,jY,getD_map' Cp.e hi,rows,List.length_cons,List.length_nil,Nat.zero_add,hn,hF,call4]
 simp[stS,Sp.e,ao]
end
theorem BS {f:Fl} (hv:VF f) (hz:f.Sz 1048576):cH f.e=some (plS (place 60 f []).1 (place 60 f []).2):=by
 have hw:(waits f).length≤60:=Nat.le_trans (List.length_filter_le _ _) hv.n60
 have st:=oz hv hz (s:=[]) (by simp)
 have e:ap4 cH.d4 f.e=qW 1000000 (ap5 cH.d3 (plS f [])) (ap5 cH.d3):=rfl
 have h:=tX (body:=fun xs=>goA 1000000 (ap5 cH.d3 xs)) (S:=plS) (T:=plS) (o:=Out.ret) (fun _=>trivial)
  (fun f s hv hz hs x hx F=>by rw[oz hv hz hs,hx];exact Da _ _)
  (fun f s hv hz hs hx=>by rw[oz hv hz hs,hx];rfl)
  60 f [] hv hz hw (by simp)
 simp only[cH]
 rw[e,CA (fun j ys h=>?_) (fun h=>?_) (fun ys h=>?_),h]
 ·rfl
 ·rw[st] at h
  split at h
  ·simp only[Option.some.injEq,Out.brk.injEq] at h;exact h.1.symm
  ·simp at h
 ·rw[st] at h;split at h<;>simp at h
 ·rw[st] at h;split at h<;>simp at h
end Go.Ev
namespace Go.Ev
def spS (f:Fl) (s:List Sp):List C:=[.b (ku f).isSome,.b false,.l (s.map Sp.e),.b f.pack,.s (nxA (ku f)),.s (nxB (ku f)),.l [],.l [],.l [],.l (f.bts.map Bt.e),.l (f.svs.map Sv.e),.l (f.cps.map Cp.e),.l ((nxG (ku f)).map sE)]
def spT (f:Fl) (s:List Sp):List C:=[.b false,.l (s.map Sp.e),.b f.pack,.l [],.l [],.l [],.l (f.bts.map Bt.e),.l (f.svs.map Sv.e),.l (f.cps.map Cp.e)]
theorem Bx {f:Fl} (hv:VF f) (hz:f.Sz 1048576):lim (oQ bX.d1) (spS f [])=some (.brk 0 (spT (place 60 f []).1 (place 60 f []).2)):=by
 have hw:(waits f).length≤60:=Nat.le_trans (List.length_filter_le _ _) hv.n60
 exact tX (body:=oQ bX.d1) (S:=spS) (T:=spT) (o:=Out.brk 0) (fun _=>trivial)
  (fun f s hv hz hs x hx F=>by
   have:=zZ hv hz hs hx F _ rfl
   have e:spS f s=[.b true,.b false,.l (s.map Sp.e),.b f.pack,.s x.1,.s x.2.1,.l [],.l [],.l [],.l (f.bts.map Bt.e),.l (f.svs.map Sv.e),.l (f.cps.map Cp.e),.l (x.2.2.map sE)]:=by
    simp only[spS,hx,nxA,nxB,nxG,Option.isSome_some]
   rw[e,this];rfl)
  (fun f s hv hz hs hx=>by
   have e:spS f s=[.b false,.b false,.l (s.map Sp.e),.b f.pack,.s (mkS []),.s (mkS []),.l [],.l [],.l [],.l (f.bts.map Bt.e),.l (f.svs.map Sv.e),.l (f.cps.map Cp.e),.l []]:=by
    simp only[spS,hx,nxA,nxB,nxG,Option.isSome_none,List.map_nil]
   rw[e]
   simp[bX.d1,spT])
  60 f [] hv hz hw (by simp)
def lU (f:Fl):Fl×List Sp:=bif bP f then place 60 f [] else (fl0,[])
def yh (r:Fl×List Sp):List C:=[.b r.1.pack,.l (r.1.bts.map Bt.e),.l (r.1.svs.map Sv.e),.l (r.1.cps.map Cp.e),.l (r.2.map Sp.e)]
theorem yn {f:Fl} (hz:f.Sz 1048576):(lU f).1.Sz 1048576∧(lU f).2.length≤60∧∀x,x∈(lU f).2→x.gone=[]:=by
 unfold lU
 cases hv:bP f with
 |false=>exact ⟨IQ,by simp,fun x hx=>by simp at hx⟩
 |true=>
  have:=AL 60 f [] (Dk hv) hz (fun x hx=>by simp at hx)
  simpa using this
end Go.Ev
namespace Go.Ev
theorem rn (p:Bool) (a b:Int×Int×Int×Int):better p a b=true↔a.1>b.1∨(a.1=b.1∧(a.2.1<b.2.1∨(a.2.1=b.2.1∧(a.2.2.1<b.2.2.1∨(a.2.2.1=b.2.2.1∧((p=true∧a.2.2.2<b.2.2.2)∨(p=false∧a.2.2.2>b.2.2.2))))))):=by
 unfold better
 by_cases h1:a.1=b.1
 ·have e1:(a.1 !=b.1)=false:=by simp[h1]
  rw[e1,jS]
  by_cases h2:a.2.1=b.2.1
  ·have e2:(a.2.1 !=b.2.1)=false:=by simp[h2]
   rw[e2,jS]
   by_cases h3:a.2.2.1=b.2.2.1
   ·have e3:(a.2.2.1 !=b.2.2.1)=false:=by simp[h3]
    rw[e3,jS]
    cases p<;>simp[h1,h2,h3]
   ·have e3:(a.2.2.1 !=b.2.2.1)=true:=by simp[h3]
    rw[e3,jR];simp[h1,h2,h3]
  ·have e2:(a.2.1 !=b.2.1)=true:=by simp[h2]
   rw[e2,jR];simp[h1,h2]
 ·have e1:(a.1 !=b.1)=true:=by simp[h1]
  rw[e1,jR];simp[h1]
theorem sN (p:Bool) (a b:Int×Int×Int×Int):better p a b=false↔¬better p a b=true:=by cases better p a b<;>simp
theorem E3 {p:Bool} {a b c:Int×Int×Int×Int} (h1:better p a b=true) (h2:better p b c=true):better p a c=true:=by
 rw[rn] at*;cases p<;>simp at*<;>omega
theorem Ez {p:Bool} {a b c:Int×Int×Int×Int} (h1:better p a b=false) (h2:better p b c=false):better p a c=false:=by
 rw[sN,rn] at*;cases p<;>simp at*<;>omega
theorem wv (p:Bool) (a:Int×Int×Int×Int):better p a a=false:=by
 rw[sN,rn];cases p<;>simp
theorem De (f:Fl) (c:Cp):∀k,k≤f.bts.length→(dF f c k=-1∧∀j (h:j<f.bts.length),j<k→cS f c f.bts[j] false≠0)∨
  ∃m,∃hm:m<f.bts.length,m<k∧dF f c k=(m:Nat)∧cS f c f.bts[m] false=0∧∀j (h:j<f.bts.length),j<k→cS f c f.bts[j] false=0→better f.pack (eB f c f.bts[j]) (eB f c f.bts[m])=false∧(j<m→better f.pack (eB f c f.bts[m]) (eB f c f.bts[j])=true)
 |0,_=>.inl ⟨rfl,fun j h hj=>by omega⟩
 |k+1,hk=>by
  have hkl:k<f.bts.length:=by omega
  have ih:=De f c k (by omega)
  have hs:dF f c (k+1)=bif cS f c f.bts[k] false==0&&u0 f c (dF f c k) f.bts[k] then (k:Int) else dF f c k:=by
   simp only[dF,List.getElem?_eq_getElem hkl]
  cases hf:cS f c f.bts[k] false==0 with
  |false=>
   have hf':cS f c f.bts[k] false≠0:=by simpa using hf
   rw[hf,Bool.false_and,jS] at hs
   rw[hs]
   rcases ih with ⟨h1,h2⟩|⟨m,hm,h1,h2,h3,h4⟩
   ·refine .inl ⟨h1,fun j h hj=>?_⟩
    rcases Nat.lt_or_eq_of_le (Nat.le_of_lt_succ hj) with h5|rfl
    ·exact h2 j h h5
    ·exact hf'
   ·refine .inr ⟨m,hm,by omega,h2,h3,fun j h hj hj0=>?_⟩
    rcases Nat.lt_or_eq_of_le (Nat.le_of_lt_succ hj) with h5|rfl
    ·exact h4 j h h5 hj0
    ·exact absurd hj0 hf'
  |true=>
   have hf':cS f c f.bts[k] false=0:=by simpa using hf
   rw[hf,Bool.true_and] at hs
   rcases ih with ⟨h1,h2⟩|⟨m,hm,h1,h2,h3,h4⟩
   ·have hw:u0 f c (dF f c k) f.bts[k]=true:=by simp[u0,h1]
    rw[hw,jR] at hs
    refine .inr ⟨k,hkl,by omega,hs,hf',fun j h hj hj0=>?_⟩
    rcases Nat.lt_or_eq_of_le (Nat.le_of_lt_succ hj) with h5|rfl
    ·exact absurd hj0 (h2 j h h5)
    ·exact ⟨wv _ _,fun h=>by omega⟩
   ·have hn:¬((m:Int)<0):=by omega
    have hw:u0 f c (dF f c k) f.bts[k]=better f.pack (eB f c f.bts[k]) (eB f c f.bts[m]):=by
     simp[u0,h2,hn,hm]
    rw[hw] at hs
    cases hb:better f.pack (eB f c f.bts[k]) (eB f c f.bts[m]) with
    |true=>
     rw[hb,jR] at hs
     refine .inr ⟨k,hkl,by omega,hs,hf',fun j h hj hj0=>?_⟩
     rcases Nat.lt_or_eq_of_le (Nat.le_of_lt_succ hj) with h5|rfl
     ·obtain ⟨a1,_⟩:=h4 j h h5 hj0
      refine ⟨?_,fun _=>?_⟩
      ·rw[sN];intro h6;rw[sN] at a1;exact a1 (E3 h6 hb)
      ·cases h6:better f.pack (eB f c f.bts[k]) (eB f c f.bts[j]) with
       |true=>rfl
       |false=>rw[Ez h6 a1] at hb;cases hb
     ·exact ⟨wv _ _,fun h=>by omega⟩
    |false=>
     rw[hb,jS] at hs
     refine .inr ⟨m,hm,by omega,hs.trans h2,h3,fun j h hj hj0=>?_⟩
     rcases Nat.lt_or_eq_of_le (Nat.le_of_lt_succ hj) with h5|rfl
     ·exact h4 j h h5 hj0
     ·exact ⟨hb,fun h=>by omega⟩
end Go.Ev
namespace Go.Ev
def BY (bs:List (List C)):Prop:=∀r,r∈bs→∃n:Int,r=[.i n]∧0≤n∧n≤255
theorem BY.get {bs:List (List C)} (h:BY bs) (k:Nat):0≤((bs.getD k []).getD 0 .nil).I∧((bs.getD k []).getD 0 .nil).I≤255:=by
 have hr:bs.getD k []=[]∨bs.getD k []∈bs:=by
  rcases Nat.lt_or_ge k bs.length with h|h
  ·right
   have:bs.getD k []=bs[k]:=by rw[List.getD_eq_getElem?_getD,List.getElem?_eq_getElem h];rfl
   rw[this];exact List.getElem_mem h
  ·left
   rw[List.getD_eq_getElem?_getD,List.getElem?_eq_none h];rfl
 generalize bs.getD k []=r at hr
 rcases hr with rfl|hr
 ·exact ⟨Int.le_refl 0,by decide⟩
 ·obtain ⟨n,rfl,h0,h1⟩:=h r hr
  exact ⟨h0,h1⟩
theorem Jc {x y:Int} (hx:0≤x∧x<1152921504606846976) (hy:0≤y∧y<1152921504606846976):0≤w64 ((BitVec.ofInt (IntKind.bits .i64) x^^^BitVec.ofInt (IntKind.bits .i64) y).toNat:Int)∧w64 ((BitVec.ofInt (IntKind.bits .i64) x^^^BitVec.ofInt (IntKind.bits .i64) y).toNat:Int)<1152921504606846976:=by
 have e:∀z:Int,0≤z∧z<1152921504606846976→(BitVec.ofInt (IntKind.bits .i64) z).toNat=z.toNat:=fun z hz=>by
  rw[BitVec.toNat_ofInt]
  have:(2:Int)^IntKind.bits .i64=18446744073709551616:=by decide
  have h2:((2^IntKind.bits .i64:Nat):Int)=18446744073709551616:=by decide
  rw[h2,Int.emod_eq_of_lt hz.1 (by omega)]
 have h:(BitVec.ofInt (IntKind.bits .i64) x^^^BitVec.ofInt (IntKind.bits .i64) y).toNat<2^60:=by
  rw[BitVec.toNat_xor,e x hx,e y hy]
  exact Nat.xor_lt_two_pow (by omega) (by omega)
 generalize (BitVec.ofInt (IntKind.bits .i64) x^^^BitVec.ofInt (IntKind.bits .i64) y).toNat=m at*
 have:(2:Nat)^60=1152921504606846976:=by decide
 rw[aP (by omega) (by omega)]
 omega
theorem bH {bs:List (List C)} (hb:BY bs) (hl:bs.length≤2000) {p n:Int} (h0:0≤p) (h1:p≤1125899906842624) (hn:1≤n) (hn2:n≤4294967296):
  ∃k:Nat,(k:Int)<n∧ae [.i n,.l bs,.i p]=some [.i k,.l bs,.i (p+1)]:=by
 have w1:w64 (p+1)=p+1:=aP (by omega) (by omega)
 have w2:w64 (p+1-1)=p:=by rw[show p+1-1=p by omega];exact aP (by omega) (by omega)
 have n1:¬n<1:=by omega
 have n2:(n !=0)=true:=by rw[bne_iff_ne];omega
 simp only[ae,ae.d1,apL,jC,jD,C.I_i,C.L_l,w1,w2,n1,n2,decide_false,ja,jR]
 by_cases hz:bs.length=0
 ·refine ⟨0,by omega,?_⟩
  simp[hz]
 have hz1:(((bs.length:Nat):Int)==0)=false:=by rw[beq_eq_false_iff_ne];omega
 have hz2:(((bs.length:Nat):Int) !=0)=true:=by rw[bne_iff_ne];omega
 have key:∀z:Int,0≤z→∃k:Nat,(k:Int)<n∧z.tmod n=(k:Int):=fun z hz=>by
  have h1:0≤z.tmod n:=Int.tmod_nonneg _ hz
  have h2:z.tmod n<n:=Int.tmod_lt_of_pos _ (by omega)
  exact ⟨(z.tmod n).toNat,by omega,by omega⟩
 by_cases hp:p<(bs.length:Int)
 ·obtain ⟨g0,g1⟩:=hb.get p.toNat
  have w3:w64 ((bs.getD p.toNat []).getD 0 .nil).I=((bs.getD p.toNat []).getD 0 .nil).I:=aP (by omega) (by omega)
  obtain ⟨k,k1,k2⟩:=key _ g0
  refine ⟨k,k1,?_⟩
  simp only[hz1,hp,h0,decide_true,jR,jS,w3,k2,jV]
 ·have w4:w64 (p*7)=p*7:=aP (by omega) (by omega)
  have w5:w64 (p*7+3)=p*7+3:=aP (by omega) (by omega)
  have m1:0≤p.tmod bs.length∧p.tmod bs.length<bs.length:=⟨Int.tmod_nonneg _ h0,Int.tmod_lt_of_pos _ (by omega)⟩
  have m2:0≤(p*7+3).tmod bs.length∧(p*7+3).tmod bs.length<bs.length:=⟨Int.tmod_nonneg _ (by omega),Int.tmod_lt_of_pos _ (by omega)⟩
  simp only[hz1,hz2,hp,w4,w5,m1.1,m1.2,m2.1,m2.2,decide_true,decide_false,jR,jS]
  obtain ⟨a0,a1⟩:=hb.get (p.tmod bs.length).toNat
  obtain ⟨b0,b1⟩:=hb.get ((p*7+3).tmod bs.length).toNat
  generalize ((bs.getD (p.tmod bs.length).toNat []).getD 0 .nil).I=a at*
  generalize ((bs.getD ((p*7+3).tmod bs.length).toNat []).getD 0 .nil).I=b at*
  have d1:0≤p.tdiv bs.length∧p.tdiv bs.length≤p:=⟨Int.tdiv_nonneg h0 (by omega),Int.tdiv_le_self _ h0⟩
  generalize p.tdiv bs.length=q at*
  have v1:w64 a=a:=aP (by omega) (by omega)
  have v2:w64 b=b:=aP (by omega) (by omega)
  have v3:w64 (a*131)=a*131:=aP (by omega) (by omega)
  have v4:w64 (b*1117)=b*1117:=aP (by omega) (by omega)
  have v5:w64 (a*131+b*1117)=a*131+b*1117:=aP (by omega) (by omega)
  have v6:w64 (p*29)=p*29:=aP (by omega) (by omega)
  have v7:w64 (a*131+b*1117+p*29)=a*131+b*1117+p*29:=aP (by omega) (by omega)
  have v8:w64 q=q:=aP (by omega) (by omega)
  have v9:w64 (q*53)=q*53:=aP (by omega) (by omega)
  have v10:w64 (a*131+b*1117+p*29+q*53)=a*131+b*1117+p*29+q*53:=aP (by omega) (by omega)
  have hx:0≤a*131+b*1117+p*29+q*53∧a*131+b*1117+p*29+q*53<1152921504606846976:=by omega
  simp only[v1,v2,v3,v4,v5,v6,v7,v8,v9,v10]
  generalize a*131+b*1117+p*29+q*53=x at*
  have e1:0≤x.tdiv 64∧x.tdiv 64≤x:=⟨Int.tdiv_nonneg hx.1 (by omega),Int.tdiv_le_self _ hx.1⟩
  have v11:w64 (x.tdiv 64)=x.tdiv 64:=aP (by omega) (by omega)
  have:=Jc hx (y:=x.tdiv 64) (by omega)
  simp only[v11] at*
  obtain ⟨k,k1,k2⟩:=key _ this.1
  exact ⟨k,k1,by simp only[k2,jV]⟩
theorem Kc {bs:List (List C)} {p n:Int} (h0:0≤p) (h1:p≤1125899906842624) (hn:n<1):ae [.i n,.l bs,.i p]=some [.i 0,.l bs,.i (p+1)]:=by
 have w1:w64 (p+1)=p+1:=aP (by omega) (by omega)
 simp only[ae,ae.d1,apL,jC,jD,C.I_i,C.L_l,w1,hn,decide_true,jZ,jS,jV]
end Go.Ev
namespace Go.Ev
theorem wg (G:List C→Option (List C)) (k:Int) (b:Nat) (s:Str) (x y z:C) {m:Nat} (hm:s.size≤m) (hb:m≤1048576):∃s':Str,ap6 (bg.d1 G) [.i b,.s s,.i k,x,y,z]=some (.ret [.s s'])∧s'.size≤m+2:=by
 have e0:∃j:Int,lT [.i k]=some [.i j]:=by
  simp only[lT,lT.d1,apL,jC,C.I_i]
  cases k==5<;>cases k==4<;>exact ⟨_,rfl⟩
 obtain ⟨j,hj⟩:=e0
 have s1:(bs #[40]).size=1:=rfl
 have s2:(bs #[41]).size=1:=rfl
 have s3:(bs #[40]++s).size=1+s.size:=by rw[ByteArray.size_append];rfl
 have s4:((bs #[40]++s)++bs #[41]).size=1+s.size+1:=by rw[ByteArray.size_append,s3];rfl
 have c1:1+s.size≤4294967296:=by omega
 have c2:1+s.size+1≤4294967296:=by omega
 simp only[apL,jC,jD,bg.d1,hj,ad,jI,C.I_i,C.S_s,s1,s2,s3,c1,c2,decide_true,jR]
 cases decide (j<(b:Int)) with
 |true=>exact ⟨_,rfl,by rw[s4];omega⟩
 |false=>exact ⟨_,rfl,by omega⟩
theorem yl {s:Str} (h:aS s=true):s.size≤20:=by
 simp only[aS,Bool.and_eq_true,within,decide_eq_true_eq] at h
 omega
theorem qn {N K:List (List C)} (hN:N.length≤1048576) (hK:K.length≤1048576):∀(k:Nat) (t:Tr) (o:Nat) (r r':List (List C)) (b:Nat),t.depth<k→t.Wf→t.sz≤1000→N.drop o=t.flat++r→K.drop o=t.kids o++r'→
  ∃s:Str,bg.g k 0 [.l N,.l K,.i (o+t.sz-1:Nat),.i b]=some [.s s]∧s.size≤50*t.sz
 |0,t,o,r,r',b,h,_,_,_,_=>by omega
 |k+1,t,o,r,r',b,h,hok,hsz,hd,hd'=>by
  have hs:∀x,bg.g (k+1) 0 x=bg.step (bg.g k 0) x:=fun _=>rfl
  rw[hs]
  simp only[bg.step,bg.d2,apL,jC,jD,C.I_i,C.L_l,jY]
  cases t with
  |lf kd n v=>
   obtain ⟨h1,h2,_⟩:=drop_cons (show N.drop o=node kd n v 0::r from hd)
   have e:o+(Tr.lf kd n v).sz-1=o:=by simp[Tr.sz]
   have hg:N.getD o []=node kd n v 0:=by rw[List.getD_eq_getElem?_getD,List.getElem?_eq_getElem h1,h2];rfl
   have e1:((o:Int)<(N.length:Int)):=by omega
   simp only[e,hg,node,jC,jD,C.I_i,C.S_s,e1,decide_true,jR,jX]
   have hn:=yl hok.1
   rcases hok.2 with ⟨rfl,rfl⟩|⟨rfl,hv⟩
   ·obtain ⟨s',h3,h4⟩:=wg (bg.g k 0) ((1:Nat):Int) b (mkS n) (.s (mkS n)) (.s (mkS [])) (.i ((0:Nat):Int)) hn (by omega)
    refine ⟨s',?_,by simp only[Tr.sz];omega⟩
    simp only[show (((1:Nat):Int)==1)=true from rfl,jR,jJ]
    rw[h3];rfl
   ·have hv:=yl hv
    have s1:(bs #[61]).size=1:=rfl
    have s2:(mkS n++bs #[61]).size=(mkS n).size+1:=by rw[ByteArray.size_append];rfl
    have s3:((mkS n++bs #[61])++mkS v).size=(mkS n).size+1+(mkS v).size:=by rw[ByteArray.size_append,s2]
    obtain ⟨s',h3,h4⟩:=wg (bg.g k 0) ((2:Nat):Int) b ((mkS n++bs #[61])++mkS v) (.s (mkS n)) (.s (mkS v)) (.i ((0:Nat):Int)) (m:=41) (by rw[s3];omega) (by omega)
    refine ⟨s',?_,by simp only[Tr.sz];omega⟩
    have c1:(mkS n).size+1≤4294967296:=by omega
    have c2:(mkS n).size+1+(mkS v).size≤4294967296:=by omega
    simp only[show (((2:Nat):Int)==1)=false from rfl,show (((2:Nat):Int)==2)=true from rfl,jR,jS,s1,s2,c1,c2,decide_true,jJ]
    rw[h3];rfl
  |un t=>
   simp only[Tr.depth] at h
   simp only[Tr.sz] at hsz
   have hn:N.drop o=t.flat++(node 3 [] [] 1::r):=by rw[hd];simp[Tr.flat]
   have hk:K.drop o=t.kids o++([.l [[.i (o+t.sz-1:Nat)]]]::r'):=by rw[hd'];simp[Tr.kids]
   obtain ⟨s1,ih,hz⟩:=qn hN hK k t o _ _ 3 (by omega) hok (by omega) hn hk
   obtain ⟨h1,h2⟩:=iB hn
   obtain ⟨h3,h4⟩:=iB hk
   rw[t.bT] at h1
   rw[t.cI] at h3
   have h2:N[o+t.sz]=node 3 [] [] 1:=by simp only[t.bT] at h2;exact h2
   have h4:K[o+t.sz]=[.l [[.i (o+t.sz-1:Nat)]]]:=by simp only[t.cI] at h4;exact h4
   have e:o+(Tr.un t).sz-1=o+t.sz:=by simp[Tr.sz]
   have hg:N.getD (o+t.sz) []=node 3 [] [] 1:=by rw[List.getD_eq_getElem?_getD,List.getElem?_eq_getElem h1,h2];rfl
   have hg':K.getD (o+t.sz) []=[.l [[.i (o+t.sz-1:Nat)]]]:=by rw[List.getD_eq_getElem?_getD,List.getElem?_eq_getElem h3,h4];rfl
   have e1:(((o+t.sz:Nat):Int)<(N.length:Int)):=by omega
   have e2:(((o+t.sz:Nat):Int)<(K.length:Int)):=by omega
   have e3:(0:Int)<((([[C.i ((o+t.sz-1:Nat):Int)]]:List (List C)).length:Nat):Int):=by simp
   have z1:(bs #[33]).size=1:=rfl
   have z2:(bs #[33]++s1).size=1+s1.size:=by rw[ByteArray.size_append];rfl
   have c1:1+s1.size≤4294967296:=by omega
   have ih':bg.g k 0 [.l N,.l K,.i (o+t.sz-1:Nat),.i 3]=some [.s s1]:=ih
   obtain ⟨s',q1,q2⟩:=wg (bg.g k 0) ((3:Nat):Int) b (bs #[33]++s1) (.s (mkS [])) (.s (mkS [])) (.i ((1:Nat):Int)) (m:=50*t.sz+1) (by rw[z2];omega) (by omega)
   refine ⟨s',?_,by simp only[Tr.sz];omega⟩
   simp only[e,hg,hg',node,jC,jD,C.I_i,C.L_l,C.S_s,e1,e2,e3,decide_true,jR,jS,jX,show (((3:Nat):Int)==1)=false from rfl,show (((3:Nat):Int)==2)=false from rfl,show (((3:Nat):Int)==3)=true from rfl,ih',ad,jI,z1,c1,jJ]
   rw[q1];rfl
  |bn kd a b'=>
   simp only[Tr.depth] at h
   simp only[Tr.sz] at hsz
   have hw:(kd=4∨kd=5)∧a.Wf∧b'.Wf:=hok
   have hn:N.drop o=a.flat++(b'.flat++(node kd [] [] 2::r)):=by rw[hd];simp[Tr.flat]
   have hn2:N.drop (o+a.sz)=b'.flat++(node kd [] [] 2::r):=by rw[←List.drop_drop,hn,←a.bT];simp
   have hk:K.drop o=a.kids o++(b'.kids (o+a.sz)++([.l [[.i (o+a.sz-1:Nat)],[.i (o+a.sz+b'.sz-1:Nat)]]]::r')):=by rw[hd'];simp[Tr.kids]
   have hk2:K.drop (o+a.sz)=b'.kids (o+a.sz)++([.l [[.i (o+a.sz-1:Nat)],[.i (o+a.sz+b'.sz-1:Nat)]]]::r'):=by
    rw[←List.drop_drop,hk,←a.cI o];simp
   obtain ⟨h1,h2⟩:=iB hn2
   obtain ⟨h3,h4⟩:=iB hk2
   rw[b'.bT] at h1
   rw[b'.cI] at h3
   have h2:N[o+a.sz+b'.sz]=node kd [] [] 2:=by simp only[b'.bT] at h2;exact h2
   have h4:K[o+a.sz+b'.sz]=[.l [[.i (o+a.sz-1:Nat)],[.i (o+a.sz+b'.sz-1:Nat)]]]:=by simp only[b'.cI] at h4;exact h4
   have e:o+(Tr.bn kd a b').sz-1=o+a.sz+b'.sz:=by simp only[Tr.sz];omega
   have hg:N.getD (o+a.sz+b'.sz) []=node kd [] [] 2:=by rw[List.getD_eq_getElem?_getD,List.getElem?_eq_getElem h1,h2];rfl
   have hg':K.getD (o+a.sz+b'.sz) []=[.l [[.i (o+a.sz-1:Nat)],[.i (o+a.sz+b'.sz-1:Nat)]]]:=by rw[List.getD_eq_getElem?_getD,List.getElem?_eq_getElem h3,h4];rfl
   have e1:(((o+a.sz+b'.sz:Nat):Int)<(N.length:Int)):=by omega
   have e2:(((o+a.sz+b'.sz:Nat):Int)<(K.length:Int)):=by omega
   have e3:(0:Int)<((([[C.i ((o+a.sz-1:Nat):Int)],[C.i ((o+a.sz+b'.sz-1:Nat):Int)]]:List (List C)).length:Nat):Int):=by simp
   have e4:(1:Int)<((([[C.i ((o+a.sz-1:Nat):Int)],[C.i ((o+a.sz+b'.sz-1:Nat):Int)]]:List (List C)).length:Nat):Int):=by simp
   rcases hw.1 with rfl|rfl
   ·obtain ⟨s1,iha,ha⟩:=qn hN hK k a o _ _ 2 (by omega) hw.2.1 (by omega) hn hk
    obtain ⟨s2,ihb,hb⟩:=qn hN hK k b' (o+a.sz) _ _ 3 (by omega) hw.2.2 (by omega) hn2 hk2
    have iha:bg.g k 0 [.l N,.l K,.i (o+a.sz-1:Nat),.i 2]=some [.s s1]:=iha
    have ihb:bg.g k 0 [.l N,.l K,.i (o+a.sz+b'.sz-1:Nat),.i 3]=some [.s s2]:=ihb
    have z1:(bs #[32,38,32]).size=3:=rfl
    have z2:(s1++bs #[32,38,32]).size=s1.size+3:=by rw[ByteArray.size_append];rfl
    have z3:((s1++bs #[32,38,32])++s2).size=s1.size+3+s2.size:=by rw[ByteArray.size_append,z2]
    have c1:s1.size+3≤4294967296:=by omega
    have c2:s1.size+3+s2.size≤4294967296:=by omega
    obtain ⟨s',q1,q2⟩:=wg (bg.g k 0) ((4:Nat):Int) b ((s1++bs #[32,38,32])++s2) (.s (mkS [])) (.s (mkS [])) (.i ((2:Nat):Int)) (m:=50*a.sz+50*b'.sz+3) (by rw[z3];omega) (by omega)
    refine ⟨s',?_,by simp only[Tr.sz];omega⟩
    simp only[e,hg,hg',node,jC,jD,C.I_i,C.L_l,C.S_s,e1,e2,e3,e4,decide_true,jR,jS,jX,show (((4:Nat):Int)==1)=false from rfl,show (((4:Nat):Int)==2)=false from rfl,show (((4:Nat):Int)==3)=false from rfl,show (((4:Nat):Int)==4)=true from rfl,iha,ihb,ad,jI,z1,z2,c1,c2,jJ]
    rw[q1];rfl
   ·obtain ⟨s1,iha,ha⟩:=qn hN hK k a o _ _ 1 (by omega) hw.2.1 (by omega) hn hk
    obtain ⟨s2,ihb,hb⟩:=qn hN hK k b' (o+a.sz) _ _ 2 (by omega) hw.2.2 (by omega) hn2 hk2
    have iha:bg.g k 0 [.l N,.l K,.i (o+a.sz-1:Nat),.i 1]=some [.s s1]:=iha
    have ihb:bg.g k 0 [.l N,.l K,.i (o+a.sz+b'.sz-1:Nat),.i 2]=some [.s s2]:=ihb
    have z1:(bs #[32,124,32]).size=3:=rfl
    have z2:(s1++bs #[32,124,32]).size=s1.size+3:=by rw[ByteArray.size_append];rfl
    have z3:((s1++bs #[32,124,32])++s2).size=s1.size+3+s2.size:=by rw[ByteArray.size_append,z2]
    have c1:s1.size+3≤4294967296:=by omega
    have c2:s1.size+3+s2.size≤4294967296:=by omega
    obtain ⟨s',q1,q2⟩:=wg (bg.g k 0) ((5:Nat):Int) b ((s1++bs #[32,124,32])++s2) (.s (mkS [])) (.s (mkS [])) (.i ((2:Nat):Int)) (m:=50*a.sz+50*b'.sz+3) (by rw[z3];omega) (by omega)
    refine ⟨s',?_,by simp only[Tr.sz];omega⟩
    simp only[e,hg,hg',node,jC,jD,C.I_i,C.L_l,C.S_s,e1,e2,e3,e4,decide_true,jR,jS,jX,show (((5:Nat):Int)==1)=false from rfl,show (((5:Nat):Int)==2)=false from rfl,show (((5:Nat):Int)==3)=false from rfl,show (((5:Nat):Int)==4)=false from rfl,show (((5:Nat):Int)==5)=true from rfl,iha,ihb,ad,jI,z1,z2,c1,c2,jJ]
    rw[q1];rfl
theorem HN {t:Tr} (ht:t.sz≤400) (hw:t.Wf):∃s:Str,gx [.l t.flat]=some [.s s]∧s.size≤200:=by
 have hF:=lk
 have hp:=t.rC
 have hd:=t.lQ
 have hw1:w64 ((t.flat.length:Int)-1)=((0+t.sz-1:Nat):Int):=by rw[t.bT,aP (by omega) (by omega)];omega
 obtain ⟨s,h1,h2⟩:=qn (N:=t.flat) (K:=t.kids 0) (by rw[t.bT];omega) (by rw[t.cI];omega) ik t 0 [] [] 1 (by omega) hw (by omega) (by simp) (by simp)
 have h1:bg [.l t.flat,.l (t.kids 0),.i (0+t.sz-1:Nat),.i 1]=some [.s s]:=h1
 simp only[gx,gx.d1,apL,jC,jD,rV t ht (.inl hw),ad,call2,jI,C.B_b,iL t (by omega),C.L_l,hw1,h1,C.S_s]
 cases decide (t.depth≤20) with
 |false=>exact ⟨_,rfl,by decide⟩
 |true=>
  simp only[jZ,jS]
  by_cases hs:(s.size:Int)>200
  ·simp only[hs,decide_true,jR,jV];exact ⟨_,rfl,by decide⟩
  ·simp only[hs,decide_false,jS,jV];exact ⟨_,rfl,by omega⟩
end Go.Ev
namespace Go.Ev
section
variable {bs:List (List C)} (hb:BY bs) (hl:bs.length≤2000)
include hb hl
theorem G9 {p:Int} (h0:0≤p) (h1:p≤1125899906842624):∃n:Tok,lI [.l bs,.i p]=some [.s (mkS n),.l bs,.i (p+1)]∧aS (mkS n)=true:=by
 obtain ⟨k,hk,e⟩:=bH hb hl h0 h1 (n:=8) (by omega) (by omega)
 have hk:k<8:=by omega
 have q:((k:Int)<8):=by omega
 simp only[lI,lI.d1,apL,jC,jD,e,call3,jI,C.I_i,jX,decide_true,jR]
 rcases k with _|_|_|_|_|_|_|_|k
 ·exact ⟨[115,115,100],rfl,by decide⟩
 ·exact ⟨[111,108,100],rfl,by decide⟩
 ·exact ⟨[103,112,117],rfl,by decide⟩
 ·exact ⟨[122,111,110,101],rfl,by decide⟩
 ·exact ⟨[99,111,108,111,114],rfl,by decide⟩
 ·exact ⟨[97],rfl,by decide⟩
 ·exact ⟨[98,45,49],rfl,by decide⟩
 ·exact ⟨[120,95,50],rfl,by decide⟩
 ·omega
theorem Hl {p:Int} (h0:0≤p) (h1:p≤1125899906842624-4):∃(t:Tr) (p':Int),jg [.l bs,.i p]=some [.l bs,.i p',.l t.flat]∧t.Wf∧t.sz=1∧p≤p'∧p'≤p+3:=by
 obtain ⟨k,hk,e⟩:=bH hb hl h0 (show p≤1125899906842624 by omega) (n:=2) (by omega) (by omega)
 simp only[jg,jg.d1,apL,jC,jD,e,call3,jI,C.I_i]
 cases hq:((k:Int)==0) with
 |true=>
  obtain ⟨n,e2,hn⟩:=G9 hb hl (p:=p+1) (by omega) (by omega)
  simp only[jR,e2,jI,jC,jD,jV]
  exact ⟨.lf 1 n [],p+1+1,rfl,⟨hn,.inl ⟨rfl,rfl⟩⟩,rfl,by omega,by omega⟩
 |false=>
  obtain ⟨i,hi,e2⟩:=bH hb hl (p:=p+1) (n:=3) (by omega) (by omega) (by omega) (by omega)
  obtain ⟨j,hj,e3⟩:=bH hb hl (p:=p+1+1) (n:=4) (by omega) (by omega) (by omega) (by omega)
  simp only[jS,e2,e3,jI,jC,jD,C.I_i,jX,decide_true,jR]
  have hv:∃v:Tok,((rows [[C.s (Go.Ev.bs #[101,97,115,116])],[C.s (Go.Ev.bs #[119,101,115,116])],[C.s (Go.Ev.bs #[114,101,100])],[C.s (Go.Ev.bs #[97])]]).getD (j:Int).toNat []).getD 0 .nil=.s (mkS v)∧aS (mkS v)=true:=by
   rcases j with _|_|_|_|j
   ·exact ⟨[101,97,115,116],rfl,by decide⟩
   ·exact ⟨[119,101,115,116],rfl,by decide⟩
   ·exact ⟨[114,101,100],rfl,by decide⟩
   ·exact ⟨[97],rfl,by decide⟩
   ·omega
  have hn:∃v:Tok,((rows [[C.s (Go.Ev.bs #[122,111,110,101])],[C.s (Go.Ev.bs #[99,111,108,111,114])],[C.s (Go.Ev.bs #[115,115,100])]]).getD (i:Int).toNat []).getD 0 .nil=.s (mkS v)∧aS (mkS v)=true:=by
   rcases i with _|_|_|i
   ·exact ⟨[122,111,110,101],rfl,by decide⟩
   ·exact ⟨[99,111,108,111,114],rfl,by decide⟩
   ·exact ⟨[115,115,100],rfl,by decide⟩
   ·omega
  obtain ⟨v,v1,v2⟩:=hv
  obtain ⟨n,n1,n2⟩:=hn
  rw[v1,n1]
  have q1:decide ((i:Int)<((rows [[C.s (Go.Ev.bs #[122,111,110,101])],[C.s (Go.Ev.bs #[99,111,108,111,114])],[C.s (Go.Ev.bs #[115,115,100])]]).length:Int))=true:=by
   show decide ((i:Int)<3)=true
   simp;omega
  have q2:decide ((j:Int)<((rows [[C.s (Go.Ev.bs #[101,97,115,116])],[C.s (Go.Ev.bs #[119,101,115,116])],[C.s (Go.Ev.bs #[114,101,100])],[C.s (Go.Ev.bs #[97])]]).length:Int))=true:=by
   show decide ((j:Int)<4)=true
   simp;omega
  rw[q1,q2]
  exact ⟨.lf 2 n v,p+1+1+1,rfl,⟨n2,.inr ⟨rfl,v2⟩⟩,rfl,by omega,by omega⟩
theorem zK:∀(k d:Nat) (p:Int),d<k→d≤6→0≤p→p+(8*2^d:Nat)≤1125899906842624-10→∃(t:Tr) (p':Int),dU.g k 0 [.i d,.l bs,.i p]=some [.l bs,.i p',.l t.flat]∧t.Wf∧t.sz+1≤2^(d+1)∧p≤p'∧p'≤p+(8*2^d-2:Nat)
 |0,d,p,h,_,_,_=>by omega
 |k+1,d,p,h,h6,h0,h1=>by
  have hs:∀x,dU.g (k+1) 0 x=dU.step (dU.g k 0) x:=fun _=>rfl
  rw[hs]
  have hpow:2^d≤64∧1≤2^d:=by
   have:=Nat.pow_le_pow_right (show 0<2 by decide) h6
   exact ⟨by simpa using this,Nat.one_le_two_pow⟩
  simp only[dU.step,dU.d1,apL,jC,jD,C.I_i]
  have leaf:∀q:Int,p≤q→q≤p+1→∃(t:Tr) (p':Int),aZ (call3 (jg [.l bs,.i q]) fun g h i=>some (.ret [g,h,.l i.L]))=some [.l bs,.i p',.l t.flat]∧t.Wf∧t.sz+1≤2^(d+1)∧p≤p'∧p'≤p+(8*2^d-2:Nat):=fun q q0 q1=>by
   obtain ⟨t,p',e,a1,a2,a3,a4⟩:=Hl hb hl (p:=q) (by omega) (by omega)
   refine ⟨t,p',by simp only[e,call3,jI,jC,jD,C.L_l,jV],a1,?_,by omega,by omega⟩
   rw[a2,Nat.pow_succ];omega
  cases hd:decide ((d:Int)≤0) with
  |true=>simp only[jZ,jS];exact leaf p (by omega) (by omega)
  |false=>
   have hd:¬((d:Int)≤0):=by simpa using hd
   obtain ⟨i,hi,e⟩:=bH hb hl h0 (show p≤1125899906842624 by omega) (n:=3) (by omega) (by omega)
   simp only[ja,jR,e,call3,jI,jC,jD,C.I_i]
   cases hq:((i:Int)==0) with
   |true=>simp only[jR];exact leaf (p+1) (by omega) (by omega)
   |false=>
    obtain ⟨j,hj,e2⟩:=bH hb hl (p:=p+1) (n:=3) (by omega) (by omega) (by omega) (by omega)
    obtain ⟨d',rfl⟩:∃d',d=d'+1:=⟨d-1,by omega⟩
    have hw:w64 (((d'+1:Nat):Int)-1)=(d':Int):=by rw[aP (by omega) (by omega)];omega
    have hp2:2^(d'+1)=2*2^d':=by rw[Nat.pow_succ];omega
    have hp3:2^(d'+1+1)=4*2^d':=by rw[Nat.pow_succ,hp2];omega
    obtain ⟨t1,p1,g1,a1,a2,a3,a4⟩:=zK k d' (p+1+1) (by omega) (by omega) (by omega) (by omega)
    have hpd:1≤2^d':=Nat.one_le_two_pow
    obtain ⟨t2,p2,g2,b1,b2,b3,b4⟩:=zK k d' p1 (by omega) (by omega) (by omega) (by omega)
    have l1:=t1.bT
    have l2:=t2.bT
    have o1:=DI 3 1 t1.flat (by omega)
    have o2:=zA 4 2 t1.flat t2.flat (by omega)
    have o3:=zA 5 2 t1.flat t2.flat (by omega)
    simp only[jS,e2,jI,jC,jD,C.I_i,hw,g1,C.L_l]
    cases hj0:((j:Int)==0) with
    |true=>
     simp only[jR,o1,call2,jI,jC,jD,C.L_l,jV]
     exact ⟨.un t1,p1,rfl,a1,by simp only[Tr.sz];omega,by omega,by omega⟩
    |false=>
     simp only[jS,g2,jI,jC,jD,C.L_l]
     cases hj1:((j:Int)==1) with
     |true=>
      simp only[jR,o2,call2,jI,jC,jD,C.L_l,jV]
      exact ⟨.bn 4 t1 t2,p2,rfl,⟨.inl rfl,a1,b1⟩,by simp only[Tr.sz];omega,by omega,by omega⟩
     |false=>
      simp only[jS,o3,call2,jI,jC,jD,C.L_l,jV]
      exact ⟨.bn 5 t1 t2,p2,rfl,⟨.inr rfl,a1,b1⟩,by simp only[Tr.sz];omega,by omega,by omega⟩
theorem Gf {p:Int} (h0:0≤p) (h1:p≤1125899906842624-2000):∃(s:Str) (p':Int),eL [.l bs,.i p]=some [.s s,.l bs,.i p']∧s.size≤200∧p≤p'∧p'≤p+40:=by
 obtain ⟨k,hk,e⟩:=bH hb hl h0 (show p≤1125899906842624 by omega) (n:=2) (by omega) (by omega)
 simp only[eL,eL.d1,apL,jC,jD,e,call3,jI,C.I_i]
 cases hq:((k:Int)==0) with
 |true=>simp only[jR,jV];exact ⟨_,_,rfl,by decide,by omega,by omega⟩
 |false=>
  obtain ⟨i,hi,e2⟩:=bH hb hl (p:=p+1) (n:=3) (by omega) (by omega) (by omega) (by omega)
  simp only[jS,e2,jI,jC,jD,C.I_i]
  cases hq2:((i:Int)==0) with
  |true=>
   obtain ⟨j,hj,e3⟩:=bH hb hl (p:=p+1+1) (n:=6) (by omega) (by omega) (by omega) (by omega)
   simp only[jR,e3,jI,jC,jD,C.I_i,jX,decide_true]
   rcases j with _|_|_|_|_|_|j
   ·exact ⟨_,_,rfl,by decide,by omega,by omega⟩
   ·exact ⟨_,_,rfl,by decide,by omega,by omega⟩
   ·exact ⟨_,_,rfl,by decide,by omega,by omega⟩
   ·exact ⟨_,_,rfl,by decide,by omega,by omega⟩
   ·exact ⟨_,_,rfl,by decide,by omega,by omega⟩
   ·exact ⟨_,_,rfl,by decide,by omega,by omega⟩
   ·omega
  |false=>
   have hF:=lk
   obtain ⟨t,p',g,a1,a2,a3,a4⟩:=zK hb hl ik 2 (p+1+1) (by omega) (by omega) (by omega) (by omega)
   have g:dU [.i 2,.l bs,.i (p+1+1)]=some [.l bs,.i p',.l t.flat]:=g
   obtain ⟨s,s1,s2⟩:=HN (t:=t) (by omega) a1
   simp only[jS,g,s1,ad,jI,jC,jD,C.L_l,jV]
   exact ⟨s,p',rfl,s2,by omega,by omega⟩
end
theorem FT:∀(k n:Nat),n<k→n≤1000→∃s:Str,dL.g k 0 [.i n]=some [.s s]∧s.size≤n+1
 |0,n,h,_=>by omega
 |k+1,n,h,hn=>by
  have hs:∀x,dL.g (k+1) 0 x=dL.step (dL.g k 0) x:=fun _=>rfl
  rw[hs]
  have n0:¬((n:Int)<0):=by omega
  simp only[dL.step,dL.d1,apL,jC,C.I_i,n0,decide_false,jS]
  have mb:∀x:C,(ky (rows [[x]])).size=1:=fun _=>rfl
  by_cases h10:(n:Int)<10
  ·simp only[h10,decide_true,jR,jV]
   exact ⟨_,rfl,by rw[mb];omega⟩
  ·have e:(n:Int).tdiv 10=((n/10:Nat):Int):=by rw[Int.tdiv_eq_ediv_of_nonneg (by omega)];omega
   have w:w64 ((n:Int).tdiv 10)=((n/10:Nat):Int):=by rw[e,aP (by omega) (by omega)]
   obtain ⟨s,g,hz⟩:=FT k (n/10) (by omega) (by omega)
   have c1:s.size+1≤4294967296:=by omega
   simp only[h10,decide_false,jS,w,g,ad,jI,jC,C.S_s,mb,c1,decide_true,jR,jV]
   exact ⟨_,rfl,by rw[ByteArray.size_append,mb];omega⟩
theorem Dn {n:Nat} (hn:n≤1000):∃s:Str,dL [.i n]=some [.s s]∧s.size≤n+1:=FT ik n (by have:=lk;omega) hn
end Go.Ev
namespace Go.Ev
def S20 (ms:List Str):Prop:=∀m,m∈ms→m.size≤20
theorem S20.Hc {ms:List Str} (h:S20 ms) {x:Str} (hx:x.size≤20):S20 (ms++[x]):=fun m hm=>by
 rcases List.mem_append.1 hm with hm|hm
 ·exact h m hm
 ·rw[List.mem_singleton.1 hm];exact hx
theorem vu (ms:List Str) (x:Str):ms.map sE++[[C.s x]]=(ms++[x]).map sE:=by simp[sE]
section
variable {bs:List (List C)} (hb:BY bs) (hl:bs.length≤2000)
include hb hl
theorem It {ms:List Str} (h:S20 ms) (hm:ms.length≤10) {p:Int} (h0:0≤p) (h1:p≤1125899906842624-10):
  ∃(ms':List Str) (p':Int),ap3 cJ.d1 [.l bs,.i p,.l (ms.map sE)]=some (.ret [.l bs,.i p',.l (ms'.map sE)])∧S20 ms'∧ms'.length≤ms.length+1∧p≤p'∧p'≤p+2:=by
 obtain ⟨k,hk,e⟩:=bH hb hl h0 (show p≤1125899906842624 by omega) (n:=2) (by omega) (by omega)
 simp only[cJ.d1,apL,jC,jD,e,call3,jI,C.I_i,C.L_l,jW]
 cases hq:((k:Int)==0) with
 |false=>simp only[jS];exact ⟨ms,p+1,rfl,h,by omega,by omega,by omega⟩
 |true=>
  obtain ⟨j,hj,e2⟩:=bH hb hl (p:=p+1) (n:=2) (by omega) (by omega) (by omega) (by omega)
  simp only[jR,e2,jI,jC,jD,C.I_i,jX,decide_true]
  have c1:ms.length+1≤4294967296:=by omega
  rcases j with _|_|j
  ·refine ⟨ms++[Go.Ev.bs #[115,115,100]],p+1+1,?_,h.Hc (by decide),by simp,by omega,by omega⟩
   rw[←vu]
   simp[rows,c1]
  ·refine ⟨ms++[Go.Ev.bs #[115,115,100,61,97]],p+1+1,?_,h.Hc (by decide),by simp,by omega,by omega⟩
   rw[←vu]
   simp[rows,c1]
  ·omega
theorem Is {ms:List Str} (h:S20 ms) (hm:ms.length≤9) {p:Int} (h0:0≤p) (h1:p≤1125899906842624-20):
  ∃(ms':List Str) (p':Int),ap3 cJ.d2 [.l bs,.i p,.l (ms.map sE)]=some (.ret [.l bs,.i p',.l (ms'.map sE)])∧S20 ms'∧ms'.length≤ms.length+2∧p≤p'∧p'≤p+3:=by
 obtain ⟨k,hk,e⟩:=bH hb hl h0 (show p≤1125899906842624 by omega) (n:=3) (by omega) (by omega)
 have c1:ms.length+1≤4294967296:=by omega
 simp only[cJ.d2,apL,jC,jD,e,call3,jI,C.I_i,C.L_l,jW,rows,List.length_cons,List.length_nil,Nat.zero_add,c1,decide_true,jR]
 cases hq:((k:Int)==0) with
 |false=>
  obtain ⟨ms',p',g,a1,a2,a3,a4⟩:=It hb hl h (by omega) (p:=p+1) (by omega) (by omega)
  simp only[jS,jJ]
  exact ⟨ms',p',g,a1,by omega,by omega,by omega⟩
 |true=>
  obtain ⟨ms',p',g,a1,a2,a3,a4⟩:=It hb hl (ms:=ms++[Go.Ev.bs #[111,108,100]]) (h.Hc (by decide)) (by simp;omega) (p:=p+1) (by omega) (by omega)
  simp only[jR,jJ,vu]
  simp only[List.length_append,List.length_cons,List.length_nil] at a2
  exact ⟨ms',p',g,a1,by omega,by omega,by omega⟩
theorem F5 {ms:List Str} (h:S20 ms) (hm:ms.length≤8) {p:Int} (h0:0≤p) (h1:p≤1125899906842624-30):
  ∃(ms':List Str) (p':Int),ap3 cJ.d3 [.l bs,.i p,.l (ms.map sE)]=some (.ret [.l bs,.i p',.l (ms'.map sE)])∧S20 ms'∧ms'.length≤ms.length+3∧p≤p'∧p'≤p+4:=by
 obtain ⟨k,hk,e⟩:=bH hb hl h0 (show p≤1125899906842624 by omega) (n:=3) (by omega) (by omega)
 have c1:ms.length+1≤4294967296:=by omega
 simp only[cJ.d3,apL,jC,jD,e,call3,jI,C.I_i,C.L_l,jW,rows,List.length_cons,List.length_nil,Nat.zero_add,c1,decide_true,jR]
 cases hq:((k:Int)==0) with
 |false=>
  obtain ⟨ms',p',g,a1,a2,a3,a4⟩:=Is hb hl h (by omega) (p:=p+1) (by omega) (by omega)
  simp only[jS,jJ]
  exact ⟨ms',p',g,a1,by omega,by omega,by omega⟩
 |true=>
  obtain ⟨ms',p',g,a1,a2,a3,a4⟩:=Is hb hl (ms:=ms++[Go.Ev.bs #[103,112,117]]) (h.Hc (by decide)) (by simp;omega) (p:=p+1) (by omega) (by omega)
  simp only[jR,jJ,vu]
  simp only[List.length_append,List.length_cons,List.length_nil] at a2
  exact ⟨ms',p',g,a1,by omega,by omega,by omega⟩
theorem Gi {p:Int} (h0:0≤p) (h1:p≤1125899906842624-40):
  ∃(ms:List Str) (p':Int),cJ [.l bs,.i p]=some [.l bs,.i p',.l (ms.map sE)]∧S20 ms∧ms.length≤10∧p≤p'∧p'≤p+6:=by
 obtain ⟨k,hk,e⟩:=bH hb hl h0 (show p≤1125899906842624 by omega) (n:=2) (by omega) (by omega)
 simp only[cJ,cJ.d4,apL,jC,jD,e,call3,jI,C.I_i]
 cases hq:((k:Int)==0) with
 |false=>
  obtain ⟨ms',p',g,a1,a2,a3,a4⟩:=F5 hb hl (ms:=[]) (fun _ h=>by simp at h) (by simp) (p:=p+1) (by omega) (by omega)
  have g:ap3 cJ.d3 [.l bs,.i (p+1),.l ao]=_:=g
  simp only[jS,jJ,g,jV]
  simp only[List.length_nil] at a2
  exact ⟨ms',p',rfl,a1,by omega,by omega,by omega⟩
 |true=>
  obtain ⟨j,hj,e2⟩:=bH hb hl (p:=p+1) (n:=2) (by omega) (by omega) (by omega) (by omega)
  simp only[jR,e2,jI,jC,jD,C.I_i,jX,decide_true]
  rcases j with _|_|j
  ·obtain ⟨ms',p',g,a1,a2,a3,a4⟩:=F5 hb hl (ms:=[Go.Ev.bs #[99,111,108,111,114,61]++Go.Ev.bs #[114,101,100]]) (fun m h=>by rw[List.mem_singleton.1 h];decide) (by simp) (p:=p+1+1) (by omega) (by omega)
   simp only[List.map_cons,List.map_nil,sE,List.length_cons,List.length_nil] at g a2
   have g':aZ (ap3 cJ.d3 [.l bs,.i (p+1+1),.l [[.s (Go.Ev.bs #[99,111,108,111,114,61]++Go.Ev.bs #[114,101,100])]]])=some [.l bs,.i p',.l (ms'.map sE)]:=by rw[g];rfl
   exact ⟨ms',p',g',a1,by omega,by omega,by omega⟩
  ·obtain ⟨ms',p',g,a1,a2,a3,a4⟩:=F5 hb hl (ms:=[Go.Ev.bs #[99,111,108,111,114,61]++Go.Ev.bs #[97]]) (fun m h=>by rw[List.mem_singleton.1 h];decide) (by simp) (p:=p+1+1) (by omega) (by omega)
   simp only[List.map_cons,List.map_nil,sE,List.length_cons,List.length_nil] at g a2
   have g':aZ (ap3 cJ.d3 [.l bs,.i (p+1+1),.l [[.s (Go.Ev.bs #[99,111,108,111,114,61]++Go.Ev.bs #[97])]]])=some [.l bs,.i p',.l (ms'.map sE)]:=by rw[g];rfl
   exact ⟨ms',p',g',a1,by omega,by omega,by omega⟩
  ·omega
theorem Fz {nm:Str} (hn:nm.size≤100) {p:Int} (h0:0≤p) (h1:p≤1125899906842624-100):
  ∃(b:Bt) (p':Int),fT [.s nm,.l bs,.i p]=some [.s b.name,.s b.zone,.i b.room,.i b.hold,.b b.shut,.l bs,.i p',.l (b.marks.map sE)]∧b.name=nm∧b.Sz 1000∧p≤p'∧p'≤p+10:=by
 obtain ⟨k,hk,e⟩:=bH hb hl h0 (show p≤1125899906842624 by omega) (n:=3) (by omega) (by omega)
 obtain ⟨ms,p1,g,a1,a2,a3,a4⟩:=Gi hb hl (p:=p+1) (by omega) (by omega)
 obtain ⟨r,hr,e2⟩:=bH hb hl (p:=p1) (n:=20) (by omega) (by omega) (by omega) (by omega)
 obtain ⟨h,hh,e3⟩:=bH hb hl (p:=p1+1) (n:=20) (by omega) (by omega) (by omega) (by omega)
 obtain ⟨s,hs,e4⟩:=bH hb hl (p:=p1+1+1) (n:=10) (by omega) (by omega) (by omega) (by omega)
 simp only[fT,fT.d1,apL,jC,jD,e,g,e2,e3,e4,call3,jI,C.I_i,C.L_l,jX,decide_true,jR]
 have key:∀z:Str,z.size≤20→∃(b:Bt) (p':Int),some [C.s nm,C.s z,C.i (w64 (4+(r:Int))),C.i (w64 (4+(h:Int))),C.b ((s:Int)==0),C.l bs,C.i (p1+1+1+1),C.l (ms.map sE)]=some [.s b.name,.s b.zone,.i b.room,.i b.hold,.b b.shut,.l bs,.i p',.l (b.marks.map sE)]∧b.name=nm∧b.Sz 1000∧p≤p'∧p'≤p+10:=fun z hz=>
  ⟨⟨nm,z,ms,_,_,_⟩,p1+1+1+1,rfl,rfl,⟨by show nm.size≤1000;omega,by show z.size≤1000;omega,by show ms.length≤1000;omega,fun m hm=>Nat.le_trans (a1 m hm) (by decide)⟩,by omega,by omega⟩
 rcases k with _|_|_|k
 ·exact key _ (show (Go.Ev.bs #[101,97,115,116]).size≤20 by decide)
 ·exact key _ (show (Go.Ev.bs #[119,101,115,116]).size≤20 by decide)
 ·exact key _ (show (Go.Ev.bs #[110,111,114,116,104]).size≤20 by decide)
 ·omega
theorem vM (a e f g h i j k l m n o q r s t u v w x y z a0:C):∀(c:Nat) (b p:Int) (L:List Lk),b≤c→-10≤b→c≤10→0≤p→p≤1125899906842624-10000+(0-100)*c→L.length+c≤20→(∀x,x∈L→x.sel.size≤200)→
  ∃(L':List Lk) (p':Int),lim (HC ca.d1) [a,.i b,.l bs,.i p,e,f,g,h,i,j,k,l,m,n,o,q,r,s,t,u,v,w,x,y,z,a0,.l [],.l (L.map Lk.e)]=some (.brk 0 [a,.l bs,.i p',e,f,g,h,i,j,k,l,m,n,o,q,r,s,t,u,v,w,x,y,z,a0,.l [],.l (L'.map Lk.e)])∧L'.length≤20∧(∀x,x∈L'→x.sel.size≤200)∧p≤p'∧p'≤p+50*c
 |c,b,p,L,hbc,hb0,hc,h0,h1,hL,hz=>by
  by_cases hpos:b>0
  ·obtain ⟨c',rfl⟩:∃c',c=c'+1:=⟨c-1,by omega⟩
   obtain ⟨sl,p1,g1,a1,a2,a3⟩:=Gf hb hl (p:=p) h0 (by omega)
   obtain ⟨wt,hw,g2⟩:=bH hb hl (p:=p1) (n:=19) (by omega) (by omega) (by omega) (by omega)
   have ww:w64 (b-1)=b-1:=aP (by omega) (by omega)
   have c1:L.length+1≤4294967296:=by omega
   have hstep:HC ca.d1 [a,.i b,.l bs,.i p,e,f,g,h,i,j,k,l,m,n,o,q,r,s,t,u,v,w,x,y,z,a0,.l [],.l (L.map Lk.e)]=some (.again [a,.i (b-1),.l bs,.i (p1+1),e,f,g,h,i,j,k,l,m,n,o,q,r,s,t,u,v,w,x,y,z,a0,.l [],.l ((L++[Lk.mk sl (w64 ((wt:Int)-9))]).map Lk.e)]):=by
    simp only[apL,jC,jD,ca.d1,C.I_i,hpos,decide_true,jR,g1,g2,call3,jI,C.L_l,jW,rows,List.length_cons,List.length_nil,Nat.zero_add,c1,ww,List.map_append,List.map_cons,List.map_nil,Lk.e]
   rw[aG hstep]
   obtain ⟨L',p',q1,q2,q3,q4,q5⟩:=vM a e f g h i j k l m n o q r s t u v w x y z a0 c' (b-1) (p1+1) (L++[Lk.mk sl (w64 ((wt:Int)-9))]) (by omega) (by omega) (by omega) (by omega) (by omega) (by simp;omega) (fun y hy=>by
    rcases List.mem_append.1 hy with hy|hy
    ·exact hz y hy
    ·rw[List.mem_singleton.1 hy];exact a1)
   exact ⟨L',p',q1,q2,q3,by omega,by omega⟩
  ·refine ⟨L,p,aQ ?_,by omega,hz,by omega,by omega⟩
   simp only[apL,jC,jD,ca.d1,C.I_i,hpos,decide_false,jS,C.L_l]
end
end Go.Ev
namespace Go.Ev
section
variable {bs:List (List C)} (hb:BY bs) (hl:bs.length≤2000)
include hb hl
theorem HX {nm sv sel:Str} {rk bn rm hd:Int} {L:List Lk} (d e f g h i j k l m n z:C) (z1:nm.size≤1000) (z2:sv.size≤1000) (z3:sel.size≤1000) (z4:L.length≤20) (z5:∀x,x∈L→x.sel.size≤200) {p:Int} (h0:0≤p) (h1:p≤1125899906842624-100):
  ∃(c:Cp) (p':Int),Fp ca.d2 [.s sv,.l bs,.i p,d,e,f,g,h,i,j,k,l,m,n,.s nm,.s sv,.i rk,.i bn,.i rm,.i hd,.s sel,.i 0,.s (Go.Ev.bs #[]),.s (Go.Ev.bs #[]),.s (Go.Ev.bs #[]),z,.l (L.map Lk.e)]=some (.ret (c.e++[.l bs,.i p']))∧c.Sz 1000∧p≤p'∧p'≤p+10:=by
 obtain ⟨x,hx,g1⟩:=bH hb hl h0 (show p≤1125899906842624 by omega) (n:=8) (by omega) (by omega)
 have key:∀(ap:Int) (nr fx:Str) (p':Int),nr.size≤1000→fx.size≤1000→p≤p'→p'≤p+10→∃(c:Cp) (q:Int),some (Out.ret [C.s nm,.s sv,.i rk,.i bn,.i rm,.i hd,.s sel,.l (L.map Lk.e),.i ap,.s nr,.s fx,.s (Go.Ev.bs #[]),.l bs,.i p'])=some (.ret (c.e++[.l bs,.i q]))∧c.Sz 1000∧p≤q∧q≤p+10:=fun ap nr fx p' hn hf q1 q2=>
  ⟨⟨nm,sv,rk,bn,rm,hd,sel,L,ap,nr,fx,Go.Ev.bs #[]⟩,p',rfl,⟨z1,z2,z3,hn,hf,by show (Go.Ev.bs #[]).size≤1000;decide,by show L.length≤1000;omega,fun x hx=>Nat.le_trans (z5 x hx) (by decide)⟩,q1,q2⟩
 have e0:(Go.Ev.bs #[]).size≤1000:=by decide
 simp only[apL,jC,jD,ca.d2,g1,call3,jI,C.I_i,C.L_l]
 cases q0:((x:Int)==0) with
 |true=>simp only[jR];exact key 1 _ _ _ e0 e0 (by omega) (by omega)
 |false=>
  cases q1:((x:Int)==1) with
  |true=>simp only[jR,jS];exact key 2 _ _ _ e0 e0 (by omega) (by omega)
  |false=>
   cases q2:((x:Int)==2) with
   |true=>
    obtain ⟨y,hy,g2⟩:=bH hb hl (p:=p+1) (n:=4) (by omega) (by omega) (by omega) (by omega)
    simp only[jR,jS,g2,jI,jC,jD,C.I_i,jX,decide_true]
    rcases y with _|_|_|_|y
    ·exact key 0 (Go.Ev.bs #[119,101,98]) _ _ (by decide) e0 (by omega) (by omega)
    ·exact key 0 (Go.Ev.bs #[100,98]) _ _ (by decide) e0 (by omega) (by omega)
    ·exact key 0 (Go.Ev.bs #[103,111,110,101]) _ _ (by decide) e0 (by omega) (by omega)
    ·exact key 0 sv _ _ z2 e0 (by omega) (by omega)
    ·omega
   |false=>
    cases q3:((x:Int)==3) with
    |true=>
     obtain ⟨y,hy,g2⟩:=bH hb hl (p:=p+1) (n:=3) (by omega) (by omega) (by omega) (by omega)
     simp only[jR,jS,g2,jI,jC,jD,C.I_i]
     cases q4:((y:Int)==0) with
     |true=>
      obtain ⟨w,hw,g3⟩:=bH hb hl (p:=p+1+1) (n:=4) (by omega) (by omega) (by omega) (by omega)
      obtain ⟨s,g4,hs⟩:=Dn (n:=w) (by omega)
      have b1:(Go.Ev.bs #[98]).size=1:=rfl
      have c1:1+s.size≤4294967296:=by omega
      simp only[jR,g3,g4,ad,jI,jC,jD,C.S_s,b1,c1,decide_true]
      exact key 0 _ _ _ e0 (by rw[ByteArray.size_append,b1];omega) (by omega) (by omega)
     |false=>simp only[jS];exact key 0 _ _ _ e0 e0 (by omega) (by omega)
    |false=>simp only[jS];exact key 0 _ _ _ e0 e0 (by omega) (by omega)
theorem HE {n:Nat} (hn:n≤900) {p:Int} (h0:0≤p) (h1:p≤1125899906842624-20000):∃(c:Cp) (p':Int),ca [.i n,.l bs,.i p]=some (c.e++[.l bs,.i p'])∧c.Sz 1000∧p≤p'∧p'≤p+1000:=by
 obtain ⟨x1,k1,g1⟩:=bH hb hl h0 (show p≤1125899906842624 by omega) (n:=4) (by omega) (by omega)
 obtain ⟨s,g2,hs⟩:=Dn (n:=n) (by omega)
 obtain ⟨x3,k3,g3⟩:=bH hb hl (p:=p+1) (n:=6) (by omega) (by omega) (by omega) (by omega)
 obtain ⟨x4,k4,g4⟩:=bH hb hl (p:=p+1+1) (n:=30) (by omega) (by omega) (by omega) (by omega)
 obtain ⟨x5,k5,g5⟩:=bH hb hl (p:=p+1+1+1) (n:=7) (by omega) (by omega) (by omega) (by omega)
 obtain ⟨x6,k6,g6⟩:=bH hb hl (p:=p+1+1+1+1) (n:=8) (by omega) (by omega) (by omega) (by omega)
 obtain ⟨sel,p1,g7,a1,a2,a3⟩:=Gf hb hl (p:=p+1+1+1+1+1) (by omega) (by omega)
 obtain ⟨x8,k8,g8⟩:=bH hb hl (p:=p1) (n:=5) (by omega) (by omega) (by omega) (by omega)
 have w1:w64 ((x8:Int)-2)=(x8:Int)-2:=aP (by omega) (by omega)
 have hsv:∃sv:Str,((rows [[C.s (Go.Ev.bs #[119,101,98])],[C.s (Go.Ev.bs #[100,98])],[C.s (Go.Ev.bs #[106,111,98])],[C.s (Go.Ev.bs #[99,97,99,104,101])]]).getD (x1:Int).toNat []).getD 0 .nil=.s sv∧sv.size≤10:=by
  rcases x1 with _|_|_|_|x1
  ·exact ⟨_,rfl,by decide⟩
  ·exact ⟨_,rfl,by decide⟩
  ·exact ⟨_,rfl,by decide⟩
  ·exact ⟨_,rfl,by decide⟩
  ·omega
 obtain ⟨sv,v1,v2⟩:=hsv
 have hrk:∃rk:Int,((rows [[C.i 1],[C.i 1],[C.i 5],[C.i 5],[C.i 9],[C.i 50]]).getD (x3:Int).toNat []).getD 0 .nil=.i rk:=by
  rcases x3 with _|_|_|_|_|_|x3
  ·exact ⟨_,rfl⟩
  ·exact ⟨_,rfl⟩
  ·exact ⟨_,rfl⟩
  ·exact ⟨_,rfl⟩
  ·exact ⟨_,rfl⟩
  ·exact ⟨_,rfl⟩
  ·omega
 obtain ⟨rk,r1⟩:=hrk
 have l1:decide ((x1:Int)<((rows [[C.s (Go.Ev.bs #[119,101,98])],[C.s (Go.Ev.bs #[100,98])],[C.s (Go.Ev.bs #[106,111,98])],[C.s (Go.Ev.bs #[99,97,99,104,101])]]).length:Int))=true:=by
  show decide ((x1:Int)<4)=true
  simp;omega
 have l3:decide ((x3:Int)<((rows [[C.i 1],[C.i 1],[C.i 5],[C.i 5],[C.i 9],[C.i 50]]).length:Int))=true:=by
  show decide ((x3:Int)<6)=true
  simp;omega
 have b1:(Go.Ev.bs #[45]).size=1:=rfl
 have b2:(sv++Go.Ev.bs #[45]).size=sv.size+1:=by rw[ByteArray.size_append];rfl
 have b3:((sv++Go.Ev.bs #[45])++s).size=sv.size+1+s.size:=by rw[ByteArray.size_append,b2]
 have c1:sv.size+1≤4294967296:=by omega
 have c2:sv.size+1+s.size≤4294967296:=by omega
 simp only[ca,ca.d3,apL,jC,jD,g1,g2,g3,g4,g5,g6,g7,g8,call3,ad,jI,C.I_i,jX,decide_true,jR,v1,r1,l1,l3,C.S_s,b1,b2,c1,c2,w1]
 obtain ⟨L,p2,q1,q2,q3,q4,q5⟩:=vM hb hl (.s sv) (.s (Go.Ev.bs #[])) (.s (Go.Ev.bs #[])) (.i 0) (.i 0) (.i 0) (.i 0) (.s (Go.Ev.bs #[])) (.i 0) (.s (Go.Ev.bs #[])) (.s (Go.Ev.bs #[])) (.s (Go.Ev.bs #[])) (.s ((sv++Go.Ev.bs #[45])++s)) (.s sv) (.i rk) (.i x4) (.i (w64 (1+(x5:Int)))) (.i x6) (.s sel) (.i 0) (.s (Go.Ev.bs #[])) (.s (Go.Ev.bs #[])) (.s (Go.Ev.bs #[])) 3 ((x8:Int)-2) (p1+1) [] (by omega) (by omega) (by omega) (by omega) (by omega) (by simp) (fun x hx=>by simp at hx)
 simp only[List.map_nil] at q1
 have q1':=q1
 erw[q1']
 obtain ⟨c,p3,r2,r3,r4,r5⟩:=HX hb hl (nm:=(sv++Go.Ev.bs #[45])++s) (sv:=sv) (sel:=sel) (rk:=rk) (bn:=x4) (rm:=w64 (1+(x5:Int))) (hd:=x6) (L:=L) (.s (Go.Ev.bs #[])) (.s (Go.Ev.bs #[])) (.i 0) (.i 0) (.i 0) (.i 0) (.s (Go.Ev.bs #[])) (.i 0) (.s (Go.Ev.bs #[])) (.s (Go.Ev.bs #[])) (.s (Go.Ev.bs #[])) (.l ao) (by rw[b3];omega) (by omega) (by omega) q2 q3 (p:=p2) (by omega) (by omega)
 refine ⟨c,p3,?_,r3,by omega,by omega⟩
 simp only[aC]
 erw[r2]
 rfl
end
end Go.Ev
namespace Go.Ev
abbrev E0:List C:=[.s (Go.Ev.bs #[]),.s (Go.Ev.bs #[]),.l [],.i 0,.i 0,.b false]
abbrev ev3 (c:Cp):List C:=.i 3::E0++c.e++[.s (Go.Ev.bs #[]),.s (Go.Ev.bs #[])]
abbrev ev5 (nm at_:Str):List C:=.i 5::E0++[.s (Go.Ev.bs #[]),.s (Go.Ev.bs #[]),.i 0,.i 0,.i 0,.i 0,.s (Go.Ev.bs #[]),.l [],.i 0,.s (Go.Ev.bs #[]),.s (Go.Ev.bs #[]),.s (Go.Ev.bs #[]),.s nm,.s at_]
theorem Im {l:List Cp} (nm:Str) {body:List C→R} {S:Nat→List C} (hs:∀i (h:i<l.length),body (S i)=if sLt l[i].name nm=true then some (.again (S (i+1))) else some (.brk 5 (S i))) (he:body (S l.length)=some (.brk 5 (S l.length))):
  ∀d i,i+d=l.length→∃j,j≤l.length∧lim body (S i)=some (.brk 5 (S j))
 |0,i,h=>by
  have:i=l.length:=by omega
  subst this
  exact ⟨_,Nat.le_refl _,aQ he⟩
 |d+1,i,h=>by
  have hi:i<l.length:=by omega
  by_cases hc:sLt l[i].name nm=true
  ·obtain ⟨j,a,b⟩:=Im nm hs he d (i+1) (by omega)
   exact ⟨j,a,by rw[aG (by rw[hs i hi,if_pos hc])];exact b⟩
  ·exact ⟨i,by omega,aQ (by rw[hs i hi,if_neg hc])⟩
section
variable {f:Fl} (hz:f.Sz 1048576)
include hz
theorem Jf {c:Cp} (hc:c.Sz 1048576) (h60:f.cps.length≤1000):
  ∃l:List Cp,aF (f.e++ev3 c)=some [.b f.pack,.b true,.l (f.bts.map Bt.e),.l (f.svs.map Sv.e),.l (l.map Cp.e)]∧l.length≤f.cps.length+1∧∀x,x∈l→x∈f.cps∨x=c:=by
 have hF:=jj hz
 have hco:=mJ hc.2.2.2.2.2.2.1
 have hlc:f.cps.length<big:=by simp only[big];omega
 obtain ⟨j,hj,h1⟩:=Im (l:=f.cps) c.name (body:=tD aF.d6) (S:=fun i=>[C.i (i:Nat),.i 3]++E0++c.e++[.s (Go.Ev.bs #[]),.s (Go.Ev.bs #[]),.b false,.b f.pack,.l [],.l [],.l [],.l (f.bts.map Bt.e),.l (f.svs.map Sv.e),.l (f.cps.map Cp.e)])
  (fun i hi=>by
   simp only[E0,Cp.e,jA,jB,apL,jC,jD,aF.d6,C.I_i,C.L_l,C.S_s,jW,jY,ltL hi,decide_true,jR,jX,w1 hi hlc]
   rw[getD_map' Cp.e hi]
   simp only[Cp.e,jC,C.S_s]
   rw[show Op.bytesLess f.cps[i].name.toList c.name.toList=sLt f.cps[i].name c.name from rfl]
   cases sLt f.cps[i].name c.name<;>simp)
  (by simp[E0,Cp.e,aF.d6])
  f.cps.length 0 (by omega)
 have hrest:∃r:List Cp,(∀x,x∈r→x∈f.cps)∧r.length≤f.cps.length-j∧tD aF.d8 ([C.i (j:Nat),.i 3]++E0++c.e++[.s (Go.Ev.bs #[]),.s (Go.Ev.bs #[]),.b false,.b f.pack,.l [],.l [],.l [],.l (f.bts.map Bt.e),.l (f.svs.map Sv.e),.l (f.cps.map Cp.e)])=some (.ret [.b f.pack,.b true,.l (f.bts.map Bt.e),.l (f.svs.map Sv.e),.l ((f.cps.take j++[c]++r).map Cp.e)]):=by
  have d7:∀r:List Cp,r.length≤f.cps.length→rr aF.d7 ([C.i (j:Nat),.l (r.map Cp.e),.i 3]++E0++c.e++[.s (Go.Ev.bs #[]),.s (Go.Ev.bs #[]),.b false,.b f.pack,.l (f.cps.map Cp.e),.l [],.l [],.l [],.l (f.bts.map Bt.e),.l (f.svs.map Sv.e)])=some (.ret [.b f.pack,.b true,.l (f.bts.map Bt.e),.l (f.svs.map Sv.e),.l ((f.cps.take j++[c]++r).map Cp.e)]):=fun r hr=>by
   have b1:(j:Int)≤(f.cps.length:Int):=by omega
   have b2:min j f.cps.length≤4294967296:=by omega
   have b3:min j f.cps.length+1≤4294967296:=by omega
   have b4:min j f.cps.length+1+r.length≤4294967296:=by omega
   simp only[Cp.e,Cp.o] at hco
   simp only[E0,Cp.e,jA,jB,apL,jC,jD,aF.d7,C.I_i,C.L_l,jW,jY,jX,decide_true,jR,hco,call12,jI,b1,List.drop_zero,ao,List.length_take,b2,Nat.zero_add,List.length_nil,List.length_append,rows,List.length_cons,b3,b4,List.map_append,List.map_cons,List.map_nil,List.map_take]
  by_cases hn:j<f.cps.length
  ·have hd:f.cps.drop j=f.cps[j]::f.cps.drop (j+1):=List.drop_eq_getElem_cons hn
   have hl1:(f.cps.drop (j+1)).length≤f.cps.length:=by rw[List.length_drop];omega
   have hb1:(j:Int)≤(f.cps.length:Int):=by omega
   have e1:((f.cps.map Cp.e).take (f.cps.length:Int).toNat).drop (j:Int).toNat=f.cps[j].e::(f.cps.drop (j+1)).map Cp.e:=by
    rw[jY,jY,List.take_of_length_le (by rw[jW];omega),←List.map_drop,hd];rfl
   cases hq:sEq f.cps[j].name c.name with
   |true=>
    refine ⟨f.cps.drop (j+1),fun x hx=>List.mem_of_mem_drop hx,by rw[List.length_drop];omega,?_⟩
    rw[←d7 _ hl1]
    have e2:(f.cps[j].name.toList==c.name.toList)=true:=hq
    have hbs:=e1
    simp only[Cp.e] at hbs
    simp only[E0,Cp.e,jA,jB,apL,jC,jD,aF.d8,C.I_i,C.L_l,C.S_s,jW,jX,decide_true,jR,hb1,Int.le_refl,hbs,List.length_cons,e2,jJ]
    have t1:(((f.cps.drop (j+1)).length+1:Nat):Int)>0:=by omega
    have t2:(0:Int)<(((f.cps.drop (j+1)).length+1:Nat):Int):=by omega
    have t3:(1:Int)≤(((f.cps.drop (j+1)).length+1:Nat):Int):=by omega
    simp only[t1,t2,t3,decide_true,jR,jJ,jY,List.take_succ_cons,List.drop_succ_cons,List.drop_zero]
    rw[List.take_of_length_le (by rw[jW];exact Nat.le_refl _)]
    rfl
   |false=>
    refine ⟨f.cps.drop j,fun x hx=>List.mem_of_mem_drop hx,by rw[List.length_drop];omega,?_⟩
    rw[←d7 _ (by rw[List.length_drop];omega)]
    have e2:(f.cps[j].name.toList==c.name.toList)=false:=hq
    have hbs:=e1
    simp only[Cp.e] at hbs
    simp only[E0,Cp.e,jA,jB,apL,jC,jD,aF.d8,C.I_i,C.L_l,C.S_s,jW,jX,decide_true,jR,hb1,Int.le_refl,hbs,List.length_cons,e2,jJ]
    have t1:(((f.cps.drop (j+1)).length+1:Nat):Int)>0:=by omega
    have t2:(0:Int)<(((f.cps.drop (j+1)).length+1:Nat):Int):=by omega
    simp only[t1,t2,decide_true,jR,jS,jJ,hd,List.map_cons]
    rfl
  ·refine ⟨[],fun x hx=>by simp at hx,by simp,?_⟩
   rw[←d7 _ (by simp)]
   have e1:((f.cps.map Cp.e).take (f.cps.length:Int).toNat).drop (j:Int).toNat=[]:=by
    rw[jY,jY];apply List.drop_eq_nil_of_le;rw[List.length_take,jW];omega
   have hb1:(j:Int)≤(f.cps.length:Int):=by omega
   simp only[E0,Cp.e,jA,jB,apL,jC,jD,aF.d8,C.I_i,C.L_l,C.S_s,jW,jX,decide_true,jR,hb1,Int.le_refl,e1,List.length_nil,jJ]
   rfl
 obtain ⟨r,r1,r2,r3⟩:=hrest
 refine ⟨f.cps.take j++[c]++r,?_,?_,fun x hx=>?_⟩
 ·simp only[aF,ev3,E0,Fl.e,Cp.e,jA,jB] at hF h1 r3⊢
  simp only[aF.d9,apL,jC,jD,hF,call4,jI,C.I_i,C.L_l,ao]
  simp only[show ((3:Int)==1)=false from rfl,show ((3:Int)==2)=false from rfl,show ((3:Int)==3)=true from rfl,jS,jR]
  simp only[Int.natCast_zero] at h1
  erw[h1]
  simp only[aC,r3]
  rfl
 ·simp only[List.length_append,List.length_take,List.length_cons,List.length_nil];omega
 ·rcases List.mem_append.1 hx with hx|hx
  ·rcases List.mem_append.1 hx with hx|hx
   ·exact .inl (List.mem_of_mem_take hx)
   ·exact .inr (List.mem_singleton.1 hx)
  ·exact .inl (r1 x hx)
theorem Jk (nm at_:Str) (h12:f.bts.length≤1000) (h60:f.cps.length≤1000):
  ∃(l:List Cp) (ok:Bool),aF (f.e++ev5 nm at_)=some [.b f.pack,.b ok,.l (f.bts.map Bt.e),.l (f.svs.map Sv.e),.l (l.map Cp.e)]∧l.length=f.cps.length∧∀x,x∈l→x∈f.cps∨∃y,y∈f.cps∧x= {y with at_:=at_}:=by
 have hF:=jj hz
 have hC:=pS f nm (by omega)
 have hB:=k9 f at_ (by omega)
 have sd:=qd (fun x:Cp=>sEq x.name nm) f.cps 0
 have fin:aF (f.e++ev5 nm at_)=bif decide (cIx f nm<0) then some [.b f.pack,.b false,.l (f.bts.map Bt.e),.l (f.svs.map Sv.e),.l (f.cps.map Cp.e)] else bif (!(at_.toList==(Go.Ev.bs #[]).toList))&&decide (bIx f at_<0) then some [.b f.pack,.b false,.l (f.bts.map Bt.e),.l (f.svs.map Sv.e),.l (f.cps.map Cp.e)] else bif decide (0≤cIx f nm)&&decide (cIx f nm<(f.cps.length:Int)) then some [.b f.pack,.b true,.l (f.bts.map Bt.e),.l (f.svs.map Sv.e),.l ((f.cps.map Cp.e).set (cIx f nm).toNat (aL ((f.cps.map Cp.e).getD (cIx f nm).toNat []) 11 [.s at_]))] else none:=by
  simp only[Fl.e] at hF
  simp only[Fl.e,jA,jB] at hC hB
  simp only[aF,ev5,E0,Fl.e,jA,jB]
  simp only[aF.d9,apL,jC,jD,hF,call4,ad,jI,C.I_i,C.L_l,C.S_s,ao,hC,hB]
  simp only[show ((5:Int)==1)=false from rfl,show ((5:Int)==2)=false from rfl,show ((5:Int)==3)=false from rfl,show ((5:Int)==4)=false from rfl,show ((5:Int)==5)=true from rfl,jS,jR]
  rw[jW]
  cases decide (cIx f nm<0)<;>cases (at_.toList==(Go.Ev.bs #[]).toList)<;>cases decide (bIx f at_<0)<;>cases decide (0≤cIx f nm)<;>cases decide (cIx f nm<(f.cps.length:Int))<;>rfl
 rw[fin]
 rcases sd with sd|⟨i,hi,e1,e2⟩
 ·rw[show decide (cIx f nm<0)=true from decide_eq_true sd,jR]
  exact ⟨f.cps,false,rfl,rfl,fun x hx=>.inl hx⟩
 ·have e1:cIx f nm=((i:Nat):Int):=by rw[show cIx f nm=eA (fun x:Cp=>sEq x.name nm) f.cps 0 from rfl,e1,Nat.zero_add]
  rw[e1,show decide (((i:Nat):Int)<0)=false from decide_eq_false (by omega),jS]
  cases (!(at_.toList==(Go.Ev.bs #[]).toList))&&decide (bIx f at_<0) with
  |true=>exact ⟨f.cps,false,rfl,rfl,fun x hx=>.inl hx⟩
  |false=>
   rw[jS,ltL hi,show decide (0≤((i:Nat):Int))=true from decide_eq_true (by omega),jY,getD_map' Cp.e hi]
   refine ⟨f.cps.set i {f.cps[i] with at_:=at_},true,?_,List.length_set,fun x hx=>?_⟩
   ·rw[List.map_set];rfl
   ·rcases List.mem_or_eq_of_mem_set hx with hx|hx
    ·exact .inl hx
    ·exact .inr ⟨_,List.getElem_mem hi,hx⟩
end
end Go.Ev
namespace Go.Ev
section
variable {f:Fl} (hz:f.Sz 1048576)
include hz
theorem FZ {k:Int} (hk1:1≤k) (hk5:k≤5) {E:List C} (hE:E.length=20) {l:List Cp} {ok:Bool} (hx:({f with cps:=l}:Fl).Sz 1048576) (he:aF (f.e++(.i k::E))=some [.b f.pack,.b ok,.l (f.bts.map Bt.e),.l (f.svs.map Sv.e),.l (l.map Cp.e)]):
  ∃(x:Fl) (code:Int),bA (f.e++(.i k::E))=some [.b x.pack,.i code,.l (x.bts.map Bt.e),.l (x.svs.map Sv.e),.l (x.cps.map Cp.e)]∧(code=0→x= {f with cps:=l}∧bP x=true):=by
 have v1:=fA hz
 have v2:=fA hx
 have w:=fb k 1 5
 have w':within k 1 5=true:=by simp[within,hk1,hk5]
 have z:∀code:Int,code≠0→∃(x:Fl) (c:Int),some [C.b false,.i code,.l [],.l [],.l []]=some [.b x.pack,.i c,.l (x.bts.map Bt.e),.l (x.svs.map Sv.e),.l (x.cps.map Cp.e)]∧(c=0→x= {f with cps:=l}∧bP x=true):=fun code h=>⟨⟨false,[],[],[]⟩,code,rfl,fun h'=>absurd h' h⟩
 match E,hE with
 |[e1,e2,e3,e4,e5,e6,e7,e8,e9,e10,e11,e12,e13,e14,e15,e16,e17,e18,e19,e20],_=>
  simp only[Fl.e,jA,jB] at he v1 v2
  simp only[bA,bA.d2,Fl.e,jA,jB,apL,jC,jD,v1,ad,jI,he,call5,C.B_b,C.L_l,v2,ao]
  cases hv:bP f with
  |false=>exact z 1 (by decide)
  |true=>
   cases ok with
   |false=>exact z 3 (by decide)
   |true=>
    cases hv2:bP {f with cps:=l} with
    |false=>exact z 2 (by decide)
    |true=>
     refine ⟨{f with cps:=l},0,?_,fun _=>⟨rfl,hv2⟩⟩
     simp only[bA.d1,apL,jC,jD,jZ,jS,jR,jJ,C.B_b,w,w',ad,jI,C.L_l]
     rfl
end
structure Dr (bts:List Bt) (svs:List Sv) (pk:Bool) (f:Fl):Prop where
 b:f.bts=bts
 s:f.svs=svs
 p:f.pack=pk
 n:f.cps.length≤60
 z:∀c,c∈f.cps→c.Sz 1000
 v:f.cps=[]∨bP f=true
theorem Cp.Sz.up {c:Cp} (h:c.Sz 1000):c.Sz 1048576:=⟨by have:=h.1;omega,by have:=h.2.1;omega,by have:=h.2.2.1;omega,by have:=h.2.2.2.1;omega,by have:=h.2.2.2.2.1;omega,by have:=h.2.2.2.2.2.1;omega,by have:=h.2.2.2.2.2.2.1;omega,fun x hx=>Nat.le_trans (h.2.2.2.2.2.2.2 x hx) (by decide)⟩
theorem Bt.Sz.up {b:Bt} (h:b.Sz 1000):b.Sz 1048576:=⟨by have:=h.1;omega,by have:=h.2.1;omega,by have:=h.2.2.1;omega,fun x hx=>Nat.le_trans (h.2.2.2 x hx) (by decide)⟩
theorem Fl.Sz.up {f:Fl} (h:f.Sz 1000):f.Sz 1048576:=⟨⟨by have:=h.1.1;omega,fun b hb=>(h.1.2 b hb).up⟩,⟨by have:=h.2.1.1;omega,fun s hs=>Nat.le_trans (h.2.1.2 s hs) (by decide)⟩,by have:=h.2.2.1;omega,fun c hc=>(h.2.2.2 c hc).up⟩
section
variable {bts:List Bt} {svs:List Sv} {pk:Bool} (hbt:bts.length≤12∧∀b,b∈bts→b.Sz 1000) (hsv:svs.length≤30∧∀s,s∈svs→s.Sz 1000)
include hbt hsv
theorem Dr.szD {f:Fl} (D:Dr bts svs pk f):f.Sz 1000:=by
 refine ⟨?_,?_,by have:=D.n;omega,D.z⟩
 ·rw[D.b];exact ⟨by omega,hbt.2⟩
 ·rw[D.s];exact ⟨by omega,hsv.2⟩
theorem Dr.ev3 {f:Fl} (D:Dr bts svs pk f) {c:Cp} (hc:c.Sz 1000):
  ∃(x:Fl) (code:Int),bA (f.e++Go.Ev.ev3 c)=some [.b x.pack,.i code,.l (x.bts.map Bt.e),.l (x.svs.map Sv.e),.l (x.cps.map Cp.e)]∧(code=0→Dr bts svs pk x):=by
 have hz:=(D.szD hbt hsv).up
 obtain ⟨l,h1,h2,h3⟩:=Jf hz hc.up (by have:=D.n;omega)
 have hl:∀x,x∈l→x.Sz 1000:=fun x hx=>(h3 x hx).elim (D.z x) (fun e=>e▸hc)
 have hx:({f with cps:=l}:Fl).Sz 1048576:=⟨hz.1,hz.2.1,by show l.length≤1048576;have:=D.n;omega,fun x h=>(hl x h).up⟩
 have e3:Go.Ev.ev3 c=.i 3::(E0++c.e++[.s (Go.Ev.bs #[]),.s (Go.Ev.bs #[])]):=by simp only[Go.Ev.ev3,jA]
 rw[e3] at h1⊢
 obtain ⟨x,code,g1,g2⟩:=FZ hz (by decide) (by decide) (by simp[E0,Cp.e]) hx h1
 refine ⟨x,code,g1,fun h=>?_⟩
 obtain ⟨rfl,q⟩:=g2 h
 exact ⟨D.b,D.s,D.p,wc (gU q),hl,.inr q⟩
theorem Dr.ev5 {f:Fl} (D:Dr bts svs pk f) {nm at_:Str} (ha:at_.size≤1000):
  ∃(x:Fl) (code:Int),bA (f.e++Go.Ev.ev5 nm at_)=some [.b x.pack,.i code,.l (x.bts.map Bt.e),.l (x.svs.map Sv.e),.l (x.cps.map Cp.e)]∧(code=0→Dr bts svs pk x):=by
 have hz:=(D.szD hbt hsv).up
 obtain ⟨l,ok,h1,h2,h3⟩:=Jk hz nm at_ (by rw[D.b];omega) (by have:=D.n;omega)
 have hl:∀x,x∈l→x.Sz 1000:=fun x hx=>(h3 x hx).elim (D.z x) (fun ⟨y,hy,e⟩=>by
  have:=D.z y hy
  rw[e]
  exact ⟨this.1,this.2.1,this.2.2.1,this.2.2.2.1,this.2.2.2.2.1,ha,this.2.2.2.2.2.2⟩)
 have hx:({f with cps:=l}:Fl).Sz 1048576:=⟨hz.1,hz.2.1,by show l.length≤1048576;have:=D.n;omega,fun x h=>(hl x h).up⟩
 have e5:Go.Ev.ev5 nm at_=.i 5::(E0++[.s (Go.Ev.bs #[]),.s (Go.Ev.bs #[]),.i 0,.i 0,.i 0,.i 0,.s (Go.Ev.bs #[]),.l [],.i 0,.s (Go.Ev.bs #[]),.s (Go.Ev.bs #[]),.s (Go.Ev.bs #[]),.s nm,.s at_]):=by simp only[Go.Ev.ev5,jA]
 rw[e5] at h1⊢
 obtain ⟨x,code,g1,g2⟩:=FZ hz (by decide) (by decide) (by simp[E0]) hx h1
 refine ⟨x,code,g1,fun h=>?_⟩
 obtain ⟨rfl,q⟩:=g2 h
 exact ⟨D.b,D.s,D.p,wc (gU q),hl,.inr q⟩
end
end Go.Ev
