/- Proved here: the law FnPilotHarmCard of the given program answers true at every input, and leaves the input as it was; no condition. This text: lemmas on the way (an evaluator of the program's code, sound once for all; the functions it prints; plain proofs on these). -/
import Derived.Test.YtephnkjnbnjicaaGreatDoorP3
set_option linter.all false
set_option autoImplicit false
set_option maxRecDepth 8000
namespace Go.Ev
def sp (c:UInt8):Bool:=c==32
theorem uN:∀l:List UInt8,dB (l.dropWhile sp)=dB l
 |[]=>rfl
 |c::r=>by
  rw[List.dropWhile_cons]
  by_cases h:c=32
  ·subst h
   have:sp 32=true:=rfl
   rw[if_pos this,uN r]
   rw[dB.eq_2,if_pos rfl]
  ·have:sp c=false:=by simp[sp,h]
   rw[this];simp
theorem yo {l r:List UInt8} {c:UInt8} (h:l.dropWhile sp=c::r):c≠32:=by
 have:=List.head?_dropWhile_not sp l
 rw[h] at this
 simp[sp] at this
 exact this
section
variable {s:Str} (hl:s.size<=1048576)
include hl
theorem Dj:∀(k i:Nat) (ok:Bool),s.data.toList.length-i<=k->i<=s.data.toList.length->
  lim (apn 3 bN.d1) [.s s,.i i,.b ok]=some (.brk 0 [.s s,.i (i+((s.data.toList.drop i).takeWhile sp).length:Nat),.b ok])
 |k,i,ok,hk,hi=>by
  cases hd:s.data.toList.drop i with
  |nil=>
   have:s.data.toList.length<=i:=by simpa using hd
   have e:i=s.size:=by rw[dy];omega
   refine aR ?_
   simp[bN.d1,e]
  |cons c r=>
   obtain ⟨hi',hc,hr⟩:=drop_cons hd
   have his:i<s.size:=by rw[dy];exact hi'
   obtain ⟨k,rfl⟩:∃k',k=k'+1:=⟨k-1,by omega⟩
   have hw:=w1 his (show s.size<big by simp only[big];omega)
   have e32:=bn c 32 32 rfl
   rw[List.takeWhile_cons]
   cases hs:sp c with
   |true=>
    have h:apn 3 bN.d1 [.s s,.i i,.b ok]=some (.again [.s s,.i (i+1:Nat),.b ok]):=by
     simp only[sp] at hs
     simp only[apL,jC,jD,bN.d1,C.I_i,C.S_s,jY,eE hi',hc,e32,hs,hw]
     simp[his]
    rw[aD h,Dj k (i+1) ok (by omega) (by omega),hr]
    simp only[if_true,Mn]
    rw[show i+1+(List.takeWhile sp r).length=i+((List.takeWhile sp r).length+1) by omega]
   |false=>
    refine aR ?_
    simp only[sp] at hs
    simp only[apL,jC,jD,bN.d1,C.I_i,C.S_s,jY,eE hi',hc,e32,hs]
    simp[his]
def gp (s:Str) (i:Nat):Nat:=i+((s.data.toList.drop i).takeWhile sp).length
omit hl in
theorem Ca (i:Nat):s.data.toList.drop (gp s i)=(s.data.toList.drop i).dropWhile sp:=by
 rw[gp,←List.drop_drop,lD]
omit hl in
theorem Kq {i:Nat} (hi:i<=s.data.toList.length):gp s i<=s.data.toList.length:=by
 have:=sf sp (s.data.toList.drop i)
 rw[MQ] at this
 unfold gp;omega
theorem HH (i:Nat) (ok:Bool) (hi:i<=s.data.toList.length):bN [.s s,.i i,.b ok]=some [.s s,.i (gp s i:Nat),.b ok]:=by
 simp only[bN,bN.d3,apL,jC,jD,Dj hl _ i ok (Mp _) hi]
 simp[bN.d2,gp]
theorem wB (c:UInt8) (hc:dM c=false) (hc2:c≠32) (i:Nat) (ok:Bool) (hi:i<=s.data.toList.length):∃i',i'<=s.data.toList.length/\∃b,bC [.i (c.toNat:Nat),.s s,.i i,.b ok]=some [.b b,.s s,.i (i':Nat),.b ok]/\
  match dB (s.data.toList.drop i) with
  |[]=>b=false/\dB (s.data.toList.drop i')=[]
  |x::r=>if x=[c] then b=true/\dB (s.data.toList.drop i')=r else b=false/\dB (s.data.toList.drop i')=x::r:=by
 have hg:=Ca (s:=s) i
 have hle:=Kq hi
 have hlex:=uN (s.data.toList.drop i)
 simp only[bC,bC.d1,apL,jC,jD,HH hl i ok hi,call3,jI,C.I_i,C.S_s,jY]
 rw[←hlex]
 cases hd:(s.data.toList.drop i).dropWhile sp with
 |nil=>
  rw[hd] at hg
  have:s.data.toList.length<=gp s i:=by simpa using hg
  have e:gp s i=s.size:=by rw[dy];omega
  refine ⟨gp s i,hle,false,by simp[e],?_⟩
  rw[hg]
  simp[dB]
 |cons x r=>
  rw[hd] at hg
  obtain ⟨hi',hx,hr⟩:=drop_cons hg
  have his:gp s i<s.size:=by rw[dy];exact hi'
  have hw:=w1 his (show s.size<big by simp only[big];omega)
  have hne:=yo hd
  simp only[eE hi',hx,bn x c _ rfl,hw]
  by_cases he:x=c
  ·subst he
   refine ⟨gp s i+1,by omega,true,by simp[his],?_⟩
   rw[dB.eq_2,if_neg hne,if_neg (by rw[hc];simp),hr]
   simp
  ·have hb:(x==c)=false:=by rw[Ns];exact he
   refine ⟨gp s i,hle,false,by simp[his,hb],?_⟩
   rw[hg]
   have hneq:∀y r',dB (x::r)=y::r'->y≠[c]:=by
    intro y r' h1 h2
    subst h2
    rw[dB.eq_2,if_neg hne] at h1
    split at h1
    ·simp at h1;exact he h1.1.1
    ·simp at h1;exact he h1.1
   have hnn:dB (x::r)≠[]:=by
    rw[dB.eq_2,if_neg hne];split<;>simp
   cases hq:dB (x::r) with
   |nil=>exact absurd hq hnn
   |cons y r'=>
    simp only
    rw[if_neg (hneq y r' hq)]
    exact ⟨trivial,trivial⟩
theorem Kj (o:Nat) (ok:Bool):∀(k i:Nat),s.data.toList.length-i<=k->i<=s.data.toList.length->
  lim (apn 4 bB.d1) [.i o,.s s,.i i,.b ok]=some (.brk 0 [.i o,.s s,.i (i+((s.data.toList.drop i).takeWhile dM).length:Nat),.b ok])
 |k,i,hk,hi=>by
  cases hd:s.data.toList.drop i with
  |nil=>
   have:s.data.toList.length<=i:=by simpa using hd
   have e:i=s.size:=by rw[dy];omega
   refine aR ?_
   simp[bB.d1,e]
  |cons c r=>
   obtain ⟨hi',hc,hr⟩:=drop_cons hd
   have his:i<s.size:=by rw[dy];exact hi'
   obtain ⟨k,rfl⟩:∃k',k=k'+1:=⟨k-1,by omega⟩
   have hw:=w1 his (show s.size<big by simp only[big];omega)
   rw[List.takeWhile_cons]
   cases hs:dM c with
   |true=>
    have h:apn 4 bB.d1 [.i o,.s s,.i i,.b ok]=some (.again [.i o,.s s,.i (i+1:Nat),.b ok]):=by
     simp only[dM] at hs
     simp only[apL,jC,jD,bB.d1,C.I_i,C.S_s,jY,eE hi',hc,pF,hs,hw,ad]
     simp[his]
    rw[aD h,Kj o ok k (i+1) (by omega) (by omega),hr]
    simp only[if_true,Mn]
    rw[show i+1+(List.takeWhile dM r).length=i+((List.takeWhile dM r).length+1) by omega]
   |false=>
    refine aR ?_
    simp only[dM] at hs
    simp only[apL,jC,jD,bB.d1,C.I_i,C.S_s,jY,eE hi',hc,pF,hs,ad]
    simp[his]
theorem E0 (i:Nat) (ok:Bool) (hi:i<=s.data.toList.length):∃i',i'<=s.data.toList.length/\∃z b,bB [.s s,.i i,.b ok]=some [.s z,.s s,.i (i':Nat),.b b]/\
  match dB (s.data.toList.drop i) with
  |[]=>b=false
  |x::r=>if bf (mkS x)=true then b=ok/\z=mkS x/\dB (s.data.toList.drop i')=r else b=false:=by
 have hg:=Ca (s:=s) i
 have hle:=Kq hi
 have hlex:=uN (s.data.toList.drop i)
 have hrun:=Kj hl (gp s i) ok _ (gp s i) (Mp _) hle
 rw[hg] at hrun
 have hlen:=sf dM ((s.data.toList.drop i).dropWhile sp)
 rw[←hg,MQ] at hlen
 rw[hg] at hlen
 have hext:s.extract (gp s i) (gp s i+(((s.data.toList.drop i).dropWhile sp).takeWhile dM).length)=mkS (((s.data.toList.drop i).dropWhile sp).takeWhile dM):=by
  rw[my,vN,hg,rP]
 have hsz:(mkS (((s.data.toList.drop i).dropWhile sp).takeWhile dM)).size<=1048576:=by
  rw[oT];rw[dy] at hl;omega
 have hres:bB [.s s,.i i,.b ok]=some [.s (mkS (((s.data.toList.drop i).dropWhile sp).takeWhile dM)),.s s,.i (gp s i+(((s.data.toList.drop i).dropWhile sp).takeWhile dM).length:Nat),.b (bf (mkS (((s.data.toList.drop i).dropWhile sp).takeWhile dM))&&ok)]:=by
  have e1:gp s i+(((s.data.toList.drop i).dropWhile sp).takeWhile dM).length<=s.size:=by rw[dy];omega
  have e2:(gp s i:Int)<=((gp s i+(((s.data.toList.drop i).dropWhile sp).takeWhile dM).length:Nat):Int):=by omega
  have e3:((gp s i+(((s.data.toList.drop i).dropWhile sp).takeWhile dM).length:Nat):Int)<=(s.size:Int):=by omega
  simp only[bB,bB.d3,apL,jC,jD,HH hl i ok hi,call3,jI,hrun,aq]
  simp only[bB.d2,C.I_i,C.S_s,jY,hext,jX,e2,e3,Mt,jR,gx _ hsz,ad,jI,jC,C.B_b]
  cases bf (mkS (((s.data.toList.drop i).dropWhile sp).takeWhile dM))<;>rfl
 refine ⟨_,by omega,_,_,hres,?_⟩
 rw[←hlex,←List.drop_drop,hg,lD]
 have hnil:bf (mkS [])=false:=rfl
 cases hd:(s.data.toList.drop i).dropWhile sp with
 |nil=>simp[dB,hnil]
 |cons x r=>
  have hne:=yo hd
  rw[dB.eq_2,if_neg hne]
  cases hs:dM x with
  |true=>
   rw[if_pos rfl,List.takeWhile_cons,hs,List.dropWhile_cons,hs]
   simp only[if_true]
   cases bf (mkS (x::List.takeWhile dM r))<;>simp
  |false=>
   rw[if_neg (by simp),List.takeWhile_cons,hs]
   have h1:bf (mkS [x])=false:=by simp[bf,ib,hs]
   simp[h1,hnil]
end
end Go.Ev
namespace Go.Ev
def Tr.enc:Tr->C
 |.lf k n v=>.p [.i (k:Nat),.s (mkS n),.s (mkS v),.l []]
 |.un t=>.p [.i 3,.s (mkS []),.s (mkS []),.l [[t.enc]]]
 |.bn k a b=>.p [.i (k:Nat),.s (mkS []),.s (mkS []),.l [[a.enc],[b.enc]]]
def K5 (s:Str) (n:Nat) (p:Option (Tr×List Tok)) (c:C) (i':Nat) (ok:Bool):Prop:=
 i'<=s.data.toList.length/\match p with
  |some (t,r)=>ok=true/\c=t.enc/\dB (s.data.toList.drop i')=r/\r.length<n
  |none=>ok=false
def IP (s:Str) (G:List C->Option (List C)) (f:List Tok->Option (Tr×List Tok)) (i:Nat):Prop:=
 ∃c i' ok,G [.s s,.i i,.b true]=some [c,.s s,.i (i':Nat),.b ok]/\K5 s (dB (s.data.toList.drop i)).length (f (dB (s.data.toList.drop i))) c i' ok
section
variable {s:Str} (hl:s.size<=1048576)
include hl
theorem Is (G:List C->Option (List C)) (f:List Tok->Option (Tr×List Tok)) (op:UInt8) (kd:Nat) (body:C->C->C->C->R) (lo:Nat) (h1:dM op=false) (h2:op≠32)
  (hb:∀a b c d,body a b c d=(bif d.B then (call4 (bC [.i (op.toNat:Nat),b,c,d]) fun e f g h=>(bif e.B then (call4 (G [f,g,h]) fun i j k l=>(some (.again [.p [.i (kd:Nat),.s (bs #[]),.s (bs #[]),.l (rows [[a],[i]])],j,k,l]))) else (some (.brk 0 [a,f,g,h])))) else (some (.brk 0 [a,b,c,d]))))
  (hG:∀i,i<=s.data.toList.length->(dB (s.data.toList.drop i)).length<=lo->IP s G f i):
  ∀(m i:Nat) (t:Tr),(dB (s.data.toList.drop i)).length<=m->(dB (s.data.toList.drop i)).length<=lo+1->i<=s.data.toList.length->
   ∃c i' ok,lim (apn 4 body) [t.enc,.s s,.i i,.b true]=some (.brk 0 [c,.s s,.i (i':Nat),.b ok])/\i'<=s.data.toList.length/\
    match opL f [op] kd m t (dB (s.data.toList.drop i)) with
     |some (u,r)=>ok=true/\c=u.enc/\dB (s.data.toList.drop i')=r/\r.length<=(dB (s.data.toList.drop i)).length
     |none=>ok=false
 |m,i,t,hm,hlo,hi=>by
  obtain ⟨i',hi',b,ht,hm2⟩:=wB hl op h1 h2 i true hi
  have hstep:apn 4 body [t.enc,.s s,.i i,.b true]=(bif b then (call4 (G [.s s,.i (i':Nat),.b true]) fun i j k l=>(some (.again [.p [.i (kd:Nat),.s (mkS []),.s (mkS []),.l [[t.enc],[i]]],j,k,l]))) else (some (.brk 0 [t.enc,.s s,.i (i':Nat),.b true]))):=by
   simp only[apL,jC,jD,hb,C.B_b,jR,ht,call4,jI,fm,rows]
  cases hd:dB (s.data.toList.drop i) with
  |nil=>
   rw[hd] at hm2
   simp only at hm2
   obtain ⟨rfl,hm3⟩:=hm2
   refine ⟨t.enc,i',true,aR hstep,hi',?_⟩
   cases m<;>simp[opL,hm3]
  |cons x r=>
   rw[hd] at hm2 hm hlo
   simp only[Mn] at hm hlo
   obtain ⟨m,rfl⟩:∃m',m=m'+1:=⟨m-1,by omega⟩
   by_cases he:x=[op]
   ·simp only[if_pos he] at hm2
    obtain ⟨rfl,hm3⟩:=hm2
    obtain ⟨c,i2,ok,hg,q1,q2⟩:=hG i' hi' (by rw[hm3];omega)
    rw[hm3] at q2
    simp only[jR,hg,call4,jI,jC,jD] at hstep
    rw[aD hstep]
    simp only[opL,if_pos he]
    cases hf:f r with
    |none=>
     rw[hf] at q2
     simp only at q2
     subst q2
     exact ⟨.p [.i (kd:Nat),.s (mkS []),.s (mkS []),.l [[t.enc],[c]]],i2,false,aR (by simp only[apL,jC,jD,hb,C.B_b,jS]),q1,rfl⟩
    |some p=>
     obtain ⟨u,r'⟩:=p
     rw[hf] at q2
     obtain ⟨rfl,rfl,q3,q4⟩:=q2
     obtain ⟨c3,i3,ok3,p1,p2,p3⟩:=Is G f op kd body lo h1 h2 hb hG m i2 (.bn kd t u) (by rw[q3];omega) (by rw[q3];omega) q1
     refine ⟨c3,i3,ok3,p1,p2,?_⟩
     rw[q3] at p3
     simp only
     cases ho:opL f [op] kd m (.bn kd t u) r' with
     |none=>rw[ho] at p3;exact p3
     |some z=>
      rw[ho] at p3
      exact ⟨p3.1,p3.2.1,p3.2.2.1,by simp only[Mn];have:=p3.2.2.2;omega⟩
   ·simp only[if_neg he] at hm2
    obtain ⟨rfl,hm3⟩:=hm2
    refine ⟨t.enc,i',true,aR hstep,hi',?_⟩
    simp[opL,he,hm3]
theorem Kv (G:List C->Option (List C)) (f:List Tok->Option (Tr×List Tok)) (op:UInt8) (kd:Nat) (body:C->C->C->C->R) (d2:C->C->C->C->R) (i:Nat) (hi:i<=s.data.toList.length) (h1:dM op=false) (h2:op≠32)
  (hb:∀a b c d,body a b c d=(bif d.B then (call4 (bC [.i (op.toNat:Nat),b,c,d]) fun e f g h=>(bif e.B then (call4 (G [f,g,h]) fun i j k l=>(some (.again [.p [.i (kd:Nat),.s (bs #[]),.s (bs #[]),.l (rows [[a],[i]])],j,k,l]))) else (some (.brk 0 [a,f,g,h])))) else (some (.brk 0 [a,b,c,d]))))
  (h3:∀a b c d,d2 a b c d=some (.ret [a,b,c,d])) (hG:∀i2,i2<=s.data.toList.length->(dB (s.data.toList.drop i2)).length<=(dB (s.data.toList.drop i)).length->IP s G f i2):
  ∃c i' ok,aU (call4 (G [.s s,.i i,.b true]) fun d e f g=>(ah 0 (lim (apn 4 body) [d,e,f,g]) (apn 4 d2)))=some [c,.s s,.i (i':Nat),.b ok]/\
   K5 s (dB (s.data.toList.drop i)).length (match f (dB (s.data.toList.drop i)) with
   |none=>none
   |some (t,r)=>opL f [op] kd r.length t r) c i' ok:=by
 obtain ⟨c,i',ok,hg,q1,q2⟩:=hG i hi (Mp _)
 rw[hg]
 simp only[call4,jI,jC,jD]
 cases hf:f (dB (s.data.toList.drop i)) with
 |none=>
  rw[hf] at q2
  simp only at q2
  subst q2
  refine ⟨c,i',false,?_,q1,rfl⟩
  rw[aR (ys:=[c,.s s,.i (i':Nat),.b false]) (i:=0) (by simp[hb])]
  simp[h3]
 |some p=>
  obtain ⟨t,r⟩:=p
  rw[hf] at q2
  obtain ⟨rfl,rfl,q3,q4⟩:=q2
  obtain ⟨c2,i2,ok2,p1,p2,p3⟩:=Is hl G f op kd body (dB (s.data.toList.drop i)).length h1 h2 hb hG r.length i' t (by rw[q3];omega) (by rw[q3];omega) q1
  rw[p1]
  rw[q3] at p3
  have hres:K5 s (dB (s.data.toList.drop i)).length (opL f [op] kd r.length t r) c2 i2 ok2:=by
   refine ⟨p2,?_⟩
   cases ho:opL f [op] kd r.length t r with
   |none=>rw[ho] at p3;exact p3
   |some z=>
    rw[ho] at p3
    exact ⟨p3.1,p3.2.1,p3.2.2.1,by have:=p3.2.2.2;omega⟩
  exact ⟨c2,i2,ok2,by simp[h3],hres⟩
theorem Kp:∀(j c k i:Nat),c<=2->i<=s.data.toList.length->3*(dB (s.data.toList.drop i)).length+(3-c)<=j->j<=k->IP s (av.g k c) (prs j c) i
 |0,c,k,i,hc,hi,hj,hk=>by omega
 |j+1,c,k,i,hc,hi,hj,hk=>by
  obtain ⟨k,rfl⟩:∃k',k=k'+1:=⟨k-1,by omega⟩
  have ih:=Kp j
  rcases (show c=0∨c=1∨c=2 by omega) with rfl|rfl|rfl
  ·obtain ⟨c,i',ok,h1,h2⟩:=Kv hl (av.g k 1) (prs j 1) 124 5 (av.d1 (av.g k 0) (av.g k 1) (av.g k 2)) (av.d2 (av.g k 0) (av.g k 1) (av.g k 2)) i hi rfl (by decide)
    (fun _ _ _ _=>rfl) (fun _ _ _ _=>rfl) (fun b h1 h2=>ih 1 k b (by omega) h1 (by omega) (by omega))
   exact ⟨c,i',ok,h1,h2⟩
  ·obtain ⟨c,i',ok,h1,h2⟩:=Kv hl (av.g k 2) (prs j 2) 38 4 (dK.d1 (av.g k 0) (av.g k 1) (av.g k 2)) (dK.d2 (av.g k 0) (av.g k 1) (av.g k 2)) i hi rfl (by decide)
    (fun _ _ _ _=>rfl) (fun _ _ _ _=>rfl) (fun b h1 h2=>ih 2 k b (by omega) h1 (by omega) (by omega))
   exact ⟨c,i',ok,h1,h2⟩
  ·have hstep:av.g (k+1) 2 [.s s,.i i,.b true]=aU (fA.d1 (av.g k 0) (av.g k 1) (av.g k 2) (.s s) (.i i) (.b true)):=rfl
   unfold IP
   rw[hstep]
   obtain ⟨i1,hi1,b1,ht1,hm1⟩:=wB hl 33 rfl (by decide) i true hi
   have ht1:bC [.i 33,.s s,.i i,.b true]=_:=ht1
   simp only[fA.d1,C.B_b,jZ,jS,ht1,call4,jI,jC,jD]
   cases hd:dB (s.data.toList.drop i) with
   |nil=>
    rw[hd] at hm1
    simp only at hm1
    obtain ⟨rfl,hm1⟩:=hm1
    obtain ⟨i2,hi2,b2,ht2,hm2⟩:=wB hl 40 rfl (by decide) i1 true hi1
    have ht2:bC [.i 40,.s s,.i i1,.b true]=_:=ht2
    rw[hm1] at hm2
    simp only at hm2
    obtain ⟨rfl,hm2⟩:=hm2
    obtain ⟨i3,hi3,z,b3,hn3,hm3⟩:=E0 hl i2 true hi2
    rw[hm2] at hm3
    simp only at hm3
    subst hm3
    simp only[jS,ht2,hn3,jI,jC,jD,C.B_b,jV]
    exact ⟨_,_,_,rfl,hi3,by simp[prs]⟩
   |cons x r=>
    rw[hd] at hm1 hj
    simp only[Mn] at hj
    by_cases x33:x=[33]
    ·simp only[if_pos x33] at hm1
     obtain ⟨rfl,hm1⟩:=hm1
     obtain ⟨c,i2,ok,hg,q1,q2⟩:=ih 2 k i1 (by omega) hi1 (by rw[hm1];omega) (by omega)
     rw[hm1] at q2
     simp only[jR,hg,jI,jC,jD,rows,fm,jV]
     refine ⟨_,_,_,rfl,q1,?_⟩
     simp only[prs,x33,if_true]
     cases hf:prs j 2 r with
     |none=>rw[hf] at q2;exact q2
     |some p=>
      rw[hf] at q2
      obtain ⟨rfl,rfl,q3,q4⟩:=q2
      exact ⟨rfl,rfl,q3,by simp only[Mn];omega⟩
    simp only[if_neg x33] at hm1
    obtain ⟨rfl,hm1⟩:=hm1
    obtain ⟨i2,hi2,b2,ht2,hm2⟩:=wB hl 40 rfl (by decide) i1 true hi1
    have ht2:bC [.i 40,.s s,.i i1,.b true]=_:=ht2
    rw[hm1] at hm2
    simp only at hm2
    simp only[jS,ht2,jI,jC,jD,C.B_b]
    by_cases x40:x=[40]
    ·simp only[if_pos x40] at hm2
     obtain ⟨rfl,hm2⟩:=hm2
     obtain ⟨c,i3,ok,hg,q1,q2⟩:=ih 0 k i2 (by omega) hi2 (by rw[hm2];omega) (by omega)
     rw[hm2] at q2
     have hp:prs (j+1) 2 (x::r)=match prs j 0 r with
       |some (t,y::r')=>if y=[41] then some (t,r') else none
       |_=>none:=by
      simp only[prs,if_neg x33,if_pos x40]<;>rcases prs j 0 r with _|⟨t,_|⟨y,r'⟩⟩<;>rfl
     rw[hp]
     simp only[jR,hg,jI,jC,jD,C.B_b]
     cases hf:prs j 0 r with
     |none=>
      rw[hf] at q2
      simp only at q2
      subst q2
      simp only[jS,jV]
      exact ⟨_,_,_,rfl,q1,rfl⟩
     |some p=>
      obtain ⟨t,z⟩:=p
      rw[hf] at q2
      obtain ⟨rfl,rfl,q3,q4⟩:=q2
      obtain ⟨i4,hi4,b4,ht4,hm4⟩:=wB hl 41 rfl (by decide) i3 true q1
      have ht4:bC [.i 41,.s s,.i i3,.b true]=_:=ht4
      rw[q3] at hm4
      simp only[jR,ht4,jI,jC,jD,C.B_b,jV]
      refine ⟨_,_,_,rfl,hi4,?_⟩
      cases z with
      |nil=>exact hm4.1
      |cons y r'=>
       simp only at hm4⊢
       by_cases y41:y=[41]
       ·simp only[if_pos y41] at hm4⊢
        simp only[Mn] at q4⊢
        exact ⟨hm4.1,trivial,hm4.2,by omega⟩
       ·simp only[if_neg y41] at hm4⊢
        exact hm4.1
    simp only[if_neg x40] at hm2
    obtain ⟨rfl,hm2⟩:=hm2
    obtain ⟨i3,hi3,z,b3,hn3,hm3⟩:=E0 hl i2 true hi2
    rw[hm2] at hm3
    simp only at hm3
    simp only[jS,hn3,jI,jC,jD,C.B_b]
    cases hn:bf (mkS x) with
    |false=>
     rw[hn] at hm3
     simp only[Bool.false_eq_true,if_false] at hm3
     subst hm3
     simp only[jS,jV]
     exact ⟨_,_,_,rfl,hi3,by simp[prs,x33,x40,hn]⟩
    |true=>
     rw[hn] at hm3
     simp only[if_true] at hm3
     obtain ⟨rfl,rfl,hm3⟩:=hm3
     obtain ⟨i4,hi4,b4,ht4,hm4⟩:=wB hl 61 rfl (by decide) i3 true hi3
     have ht4:bC [.i 61,.s s,.i i3,.b true]=_:=ht4
     rw[hm3] at hm4
     simp only[jR,ht4,jI,jC,jD,C.B_b]
     cases r with
     |nil=>
      simp only at hm4
      obtain ⟨rfl,hm4⟩:=hm4
      simp only[jS,rows,af,fm,jV]
      refine ⟨_,_,_,rfl,hi4,?_⟩
      simp only[prs,if_neg x33,if_neg x40,hn,if_true]
      exact ⟨trivial,rfl,hm4,by simp⟩
     |cons y r'=>
      simp only at hm4
      by_cases y61:y=[61]
      ·simp only[if_pos y61] at hm4
       obtain ⟨rfl,hm4⟩:=hm4
       obtain ⟨i5,hi5,z5,b5,hn5,hm5⟩:=E0 hl i4 true hi4
       rw[hm4] at hm5
       simp only[jR,hn5,jI,jC,jD,rows,af,jV]
       refine ⟨_,_,_,rfl,hi5,?_⟩
       cases r' with
       |nil=>
        simp only at hm5
        subst hm5
        simp[prs,x33,x40,hn,y61]
       |cons v r''=>
        simp only at hm5
        cases hv:bf (mkS v) with
        |false=>
         rw[hv] at hm5
         simp only[Bool.false_eq_true,if_false] at hm5
         subst hm5
         simp[prs,x33,x40,hn,y61,hv]
        |true=>
         rw[hv] at hm5
         simp only[if_true] at hm5
         obtain ⟨rfl,rfl,hm5⟩:=hm5
         simp only[prs,if_neg x33,if_neg x40,hn,if_true,y61,hv]
         exact ⟨trivial,rfl,hm5,by simp only[Mn];omega⟩
      ·simp only[if_neg y61] at hm4
       obtain ⟨rfl,hm4⟩:=hm4
       simp only[jS,rows,af,fm,jV]
       refine ⟨_,_,_,rfl,hi4,?_⟩
       simp only[prs,if_neg x33,if_neg x40,hn,if_true,if_neg y61]
       exact ⟨trivial,rfl,hm4,by simp⟩
end
end Go.Ev
namespace Go.Ev
def Tr.Wf:Tr->Prop
 |.lf k n v=>bf (mkS n)=true/\((k=1/\v=[])∨(k=2/\bf (mkS v)=true))
 |.un t=>t.Wf
 |.bn k a b=>(k=4∨k=5)/\a.Wf/\b.Wf
def Tr.sz:Tr->Nat
 |.lf _ _ _=>1
 |.un t=>t.sz+1
 |.bn _ a b=>a.sz+b.sz+1
def Tr.depth:Tr->Nat
 |.lf _ _ _=>0
 |.un t=>t.depth+1
 |.bn _ a b=>max a.depth b.depth+1
theorem Tr.sT:∀t:Tr,0<t.sz
 |.lf _ _ _=>by simp[Tr.sz]
 |.un t=>by simp[Tr.sz]
 |.bn _ a b=>by simp[Tr.sz]
theorem Tr.mX:∀t:Tr,t.depth<t.sz
 |.lf _ _ _=>by simp[Tr.sz,Tr.depth]
 |.un t=>by have:=t.mX;simp[Tr.sz,Tr.depth];exact this
 |.bn _ a b=>by have:=a.mX;have:=b.mX;simp only[Tr.sz,Tr.depth];omega
theorem Tr.cq:∀t:Tr,t.flat.length=t.sz
 |.lf _ _ _=>rfl
 |.un t=>by simp[Tr.flat,Tr.sz,t.cq]
 |.bn _ a b=>by simp[Tr.flat,Tr.sz,a.cq,b.cq];omega
def u5 (x:Tok):Prop:=bf (mkS x)=true∨x=[33]∨x=[40]∨x=[41]∨x=[61]∨x=[124]∨x=[38]
def Pre (l:List Tok) (t:Tr) (r:List Tok):Prop:=∃p,l=p++r/\(∀x,x∈p->u5 x)/\t.sz<=p.length/\t.Wf
theorem EH (f:List Tok->Option (Tr×List Tok)) (op:Tok) (kd:Nat) (hop:u5 op) (hk:kd=4∨kd=5) (hf:∀l t r,f l=some (t,r)->Pre l t r):∀(m:Nat) (t:Tr) (l:List Tok) (u:Tr) (r l0:List Tok),
  Pre l0 t l->opL f op kd m t l=some (u,r)->Pre l0 u r
 |0,t,l,u,r,l0,h0,h=>by
  simp only[opL,Mj,MG] at h
  obtain ⟨rfl,rfl⟩:=h;exact h0
 |m+1,t,[],u,r,l0,h0,h=>by
  simp only[opL,Mj,MG] at h
  obtain ⟨rfl,rfl⟩:=h;exact h0
 |m+1,t,x::l,u,r,l0,h0,h=>by
  simp only[opL] at h
  split at h
  ·rename_i hx
   split at h
   ·simp at h
   ·rename_i t' r'' hq
    refine EH f op kd hop hk hf m _ _ u r l0 ?_ h
    obtain ⟨p,rfl,q2,q3,q4⟩:=h0
    obtain ⟨p',rfl,q2',q3',q4'⟩:=hf _ _ _ hq
    refine ⟨p++x::p',by simp,fun y hy=>?_,by simp[Tr.sz];omega,hk,q4,q4'⟩
    rcases MO.1 hy with hy|hy
    ·exact q2 y hy
    ·rcases Mw.1 hy with rfl|hy
     ·rw[hx];exact hop
     ·exact q2' y hy
  ·simp only[Mj,MG] at h
   obtain ⟨rfl,rfl⟩:=h;exact h0
theorem oz:∀(j c:Nat) (l:List Tok) (t:Tr) (r:List Tok),prs j c l=some (t,r)->Pre l t r
 |0,c,l,t,r,h=>by simp[prs] at h
 |j+1,0,l,t,r,h=>by
  simp only[prs] at h
  split at h
  ·simp at h
  ·rename_i t' r' hq
   exact EH (prs j 1) [124] 5 (by simp[u5]) (.inr rfl) (fun l t r=>oz j 1 l t r) _ _ _ _ _ l (oz j 1 _ _ _ hq) h
 |j+1,1,l,t,r,h=>by
  simp only[prs] at h
  split at h
  ·simp at h
  ·rename_i t' r' hq
   exact EH (prs j 2) [38] 4 (by simp[u5]) (.inl rfl) (fun l t r=>oz j 2 l t r) _ _ _ _ _ l (oz j 2 _ _ _ hq) h
 |j+1,c+2,[],t,r,h=>by simp[prs] at h
 |j+1,c+2,x::l,t,r,h=>by
  simp only[prs] at h
  split at h
  ·rename_i hx
   split at h
   ·simp at h
   ·rename_i t' r' hq
    simp only[Mj,MG] at h
    obtain ⟨rfl,rfl⟩:=h
    obtain ⟨p,rfl,q2,q3,q4⟩:=oz j 2 _ _ _ hq
    refine ⟨x::p,rfl,fun y hy=>?_,by simp[Tr.sz];omega,q4⟩
    rcases Mw.1 hy with rfl|hy
    ·rw[hx];simp[u5]
    ·exact q2 y hy
  ·split at h
   ·rename_i hx
    split at h
    ·rename_i t' y r' hq
     split at h
     ·rename_i hy41
      simp only[Mj,MG] at h
      obtain ⟨rfl,rfl⟩:=h
      obtain ⟨p,hp,q2,q3,q4⟩:=oz j 0 _ _ _ hq
      refine ⟨x::(p++[y]),by rw[hp];simp,fun z hz=>?_,by simp;omega,q4⟩
      rcases Mw.1 hz with rfl|hz
      ·rw[hx];simp[u5]
      ·rcases MO.1 hz with hz|hz
       ·exact q2 z hz
       ·simp at hz;subst hz;rw[hy41];simp[u5]
     ·simp at h
    ·simp at h
   ·split at h
    ·rename_i hn
     split at h
     ·rename_i y r'
      split at h
      ·rename_i hy61
       split at h
       ·rename_i v r''
        split at h
        ·rename_i hv
         simp only[Mj,MG] at h
         obtain ⟨rfl,rfl⟩:=h
         refine ⟨[x,y,v],rfl,fun z hz=>?_,by simp[Tr.sz],hn,.inr ⟨rfl,hv⟩⟩
         simp at hz
         rcases hz with rfl|rfl|rfl
         ·exact .inl hn
         ·rw[hy61];simp[u5]
         ·exact .inl hv
        ·simp at h
       ·simp at h
      ·simp only[Mj,MG] at h
       obtain ⟨rfl,rfl⟩:=h
       refine ⟨[x],rfl,fun z hz=>?_,by simp[Tr.sz],hn,.inl ⟨rfl,rfl⟩⟩
       simp at hz;subst hz;exact .inl hn
     ·simp only[Mj,MG] at h
      obtain ⟨rfl,rfl⟩:=h
      refine ⟨[x],rfl,fun z hz=>?_,by simp[Tr.sz],hn,.inl ⟨rfl,rfl⟩⟩
      simp at hz;subst hz;exact .inl hn
    ·simp at h
theorem AD:∀r:List UInt8,r.all iq=(r.dropWhile dM).all iq
 |[]=>rfl
 |x::r=>by
  rw[List.dropWhile_cons]
  cases hx:dM x with
  |true=>simp only[if_true,List.all_cons];rw[AD r];simp[iq,hx]
  |false=>simp
theorem sx:∀(n:Nat) (l:List UInt8),l.length<=n->(∀x,x∈dB l->u5 x)->l.all iq=true
 |n,[],hn,h=>rfl
 |0,c::r,hn,h=>by simp at hn
 |n+1,c::r,hn,h=>by
  simp only[Mn] at hn
  rw[dB.eq_2] at h
  split at h
  ·rename_i h32
   subst h32
   have:=sx n r (by omega) h
   simp[iq] at this⊢
   exact this
  ·rename_i h32
   split at h
   ·rename_i hc
    have hdl:=(List.dropWhile_suffix (l:=r) dM).length_le
    have:=sx n (r.dropWhile dM) (by omega) fun x hx=>h x (by simp[hx])
    rw[List.all_cons,AD r,this]
    simp[iq,hc]
   ·rename_i hc
    have h1:=h [c] (by simp)
    have:=sx n r (by omega) fun x hx=>h x (by simp[hx])
    rw[List.all_cons,this]
    have hn1:bf (mkS [c])=false:=by simp[bf,ib,hc]
    rcases h1 with h1|h1|h1|h1|h1|h1|h1
    ·rw[hn1] at h1;simp at h1
    all_goals (simp at h1;subst h1;rfl)
theorem sr:∀(n:Nat) (l:List UInt8),l.length<=n->(dB l).length<=l.length/\∀x,x∈dB l->x.length<=l.length
 |n,[],hn=>by simp[dB]
 |0,c::r,hn=>by simp at hn
 |n+1,c::r,hn=>by
  simp only[Mn] at hn⊢
  rw[dB.eq_2]
  split
  ·obtain ⟨h1,h2⟩:=sr n r (by omega)
   exact ⟨by omega,fun x hx=>by have:=h2 x hx;omega⟩
  ·split
   ·have hdl:=(List.dropWhile_suffix (l:=r) dM).length_le
    have htl:=sf dM r
    obtain ⟨h1,h2⟩:=sr n (r.dropWhile dM) (by omega)
    refine ⟨by simp;omega,fun x hx=>?_⟩
    rcases Mw.1 hx with rfl|hx
    ·simp;omega
    ·have:=h2 x hx;omega
   ·obtain ⟨h1,h2⟩:=sr n r (by omega)
    refine ⟨by simp;omega,fun x hx=>?_⟩
    rcases Mw.1 hx with rfl|hx
    ·simp
    ·have:=h2 x hx;omega
end Go.Ev
namespace Go.Ev
theorem ua {n:Nat} (h:n<big):w64 ((n:Int)+1)=((n+1:Nat):Int):=by
 simp only[big] at h;rw[aN (by omega) (by omega)];rfl
theorem xR:∀(k:Nat) (t:Tr),t.depth<k->t.depth<big->aw.g k 0 [t.enc]=some [.i (t.depth:Nat)]
 |0,t,h,_=>by omega
 |k+1,t,h,hb=>by
  have hs:∀x,aw.g (k+1) 0 x=aw.step (aw.g k 0) x:=fun _=>rfl
  rw[hs]
  have w0:w64 1=1:=aN (by omega) (by omega)
  have w2:w64 2=2:=aN (by omega) (by omega)
  cases t with
  |lf kd n v=>
   have h0:apn 4 (aw.d1 (aw.g k 0)) [.i 0,.l [],.i 0,.i 0]=some (.brk 0 [.i 0]):=by simp[aw.d1]
   simp only[aw.step,aw.d3,apL,jC,jD,Tr.enc,C.wT,jR,C.P_p,C.L_l,Mo,Int.ofNat_zero,Mr]
   rw[aR h0]
   simp[aw.d2,Tr.depth]
  |un t=>
   simp only[Tr.depth] at h hb
   have ih:=xR k t (by omega) (by omega)
   have h0:apn 4 (aw.d1 (aw.g k 0)) [.i 0,.l [[t.enc]],.i 1,.i 0]=some (.again [.i (t.depth+1:Nat),.l [[t.enc]],.i 1,.i 1]):=by
    have hgt:(((t.depth+1:Nat):Int))>0:=by omega
    simp[aw.d1,ih,ad,ua (show t.depth<big by omega),w0]
   have h1:apn 4 (aw.d1 (aw.g k 0)) [.i (t.depth+1:Nat),.l [[t.enc]],.i 1,.i 1]=some (.brk 0 [.i (t.depth+1:Nat)]):=by simp[aw.d1]
   simp only[aw.step,aw.d3,apL,jC,jD,Tr.enc,C.wT,jR,C.P_p,C.L_l,Mn,Mo]
   erw[aD h0,aR h1]
   simp[aw.d2,Tr.depth]
  |bn kd a b=>
   simp only[Tr.depth] at h hb
   have iha:=xR k a (by omega) (by omega)
   have ihb:=xR k b (by omega) (by omega)
   have h0:apn 4 (aw.d1 (aw.g k 0)) [.i 0,.l [[a.enc],[b.enc]],.i 2,.i 0]=some (.again [.i (a.depth+1:Nat),.l [[a.enc],[b.enc]],.i 2,.i 1]):=by
    simp[aw.d1,iha,ad,ua (show a.depth<big by omega),w0]
   have h1:apn 4 (aw.d1 (aw.g k 0)) [.i (a.depth+1:Nat),.l [[a.enc],[b.enc]],.i 2,.i 1]=some (.again [.i (max a.depth b.depth+1:Nat),.l [[a.enc],[b.enc]],.i 2,.i 2]):=by
    have e:(1:Int)<2:=by omega
    simp only[apL,jC,jD,aw.d1,C.I_i,C.L_l,e,Mt,jR,Mn,Mo,Int.toNat_one,ihb,ad,jI,ua (show b.depth<big by omega)]
    have w2':w64 (1+1)=2:=w2
    rw[w2']
    simp
    split<;>omega
   have h2:apn 4 (aw.d1 (aw.g k 0)) [.i (max a.depth b.depth+1:Nat),.l [[a.enc],[b.enc]],.i 2,.i 2]=some (.brk 0 [.i (max a.depth b.depth+1:Nat)]):=by simp[aw.d1]
   simp only[aw.step,aw.d3,apL,jC,jD,Tr.enc,C.wT,jR,C.P_p,C.L_l,Mn,Mo]
   erw[aD h0,aD h1,aR h2]
   simp[aw.d2,Tr.depth]
def Tr.kids:Tr->Nat->List (List C)
 |.lf _ _ _,o=>[[.l []]]
 |.un t,o=>t.kids o++[[.l [[.i (o+t.sz-1:Nat)]]]]
 |.bn _ a b,o=>a.kids o++b.kids (o+a.sz)++[[.l [[.i (o+a.sz-1:Nat)],[.i (o+a.sz+b.sz-1:Nat)]]]]
theorem Tr.cR:∀(t:Tr) (o:Nat),(t.kids o).length=t.sz
 |.lf _ _ _,o=>rfl
 |.un t,o=>by simp[Tr.kids,Tr.sz,t.cR]
 |.bn _ a b,o=>by simp[Tr.kids,Tr.sz,a.cR,b.cR];omega
theorem yC {N:List (List C)} {o m:Nat} {kd:Nat} {n v:Tok} {out stk:List (List C)} (hN:N.length<=1048576) (ho:o<N.length) (hn:N[o]=node kd n v m) (h1:m<=stk.length) (h2:stk.length<=o) (h3:out.length<=o):
  apn 4 ec.d1 [.i o,.l N,.l out,.l stk]=some (.again [.i (o+1:Nat),.l N,.l (out++[[.l (stk.drop (stk.length-m))]]),.l (stk.take (stk.length-m)++[[.i (o:Nat)]])]):=by
 have hg:N.getD o []=node kd n v m:=by rw[Mm,Mg ho,hn];rfl
 have hw:w64 ((stk.length:Int)-(m:Int))=((stk.length-m:Nat):Int):=by rw[aN (by omega) (by omega)];omega
 have hw1:=w1 ho (show N.length<big by simp only[big];omega)
 have e1:¬((m:Int)<0):=by omega
 have e2:¬((m:Int)>(stk.length:Int)):=by omega
 have e3:((stk.length-m:Nat):Int)<=(stk.length:Int):=by omega
 have e4:(stk.drop (stk.length-m)).length<=4294967296:=by rw[MQ];omega
 have e5:out.length+1<=4294967296:=by omega
 have e6:(stk.take (stk.length-m)).length+1<=4294967296:=by rw[ME];omega
 simp only[apL,jC,jD,ec.d1,C.I_i,C.L_l,jY,hg,node,hw,hw1,Na,Nb,af,rows,jB,Mo,Mn,My,e1,e2,e3,e4,e5,e6,Mt,Mu,jR,jS,ja,jX,Int.le_refl]
 simp[ho]
theorem jy {α:Type} {N l r:List α} {o:Nat} {x:α} (h:N.drop o=l++x::r):∃h:o+l.length<N.length,N[o+l.length]=x:=by
 have h2:N.drop (o+l.length)=x::r:=by rw[←List.drop_drop,h];simp
 obtain ⟨h3,h4,_⟩:=drop_cons h2
 exact ⟨h3,h4⟩
theorem Cd {N:List (List C)} (hN:N.length<=1048576):∀(t:Tr) (o:Nat) (out stk r:List (List C)),N.drop o=t.flat++r->stk.length<=o->out.length<=o->
  lim (apn 4 ec.d1) [.i o,.l N,.l out,.l stk]=lim (apn 4 ec.d1) [.i (o+t.sz:Nat),.l N,.l (out++t.kids o),.l (stk++[[.i (o+t.sz-1:Nat)]])]
 |.lf kd n v,o,out,stk,r,h,hs,ho=>by
  obtain ⟨h1,h2,_⟩:=drop_cons (show N.drop o=node kd n v 0::r from h)
  rw[aD (yC hN h1 h2 (Nat.zero_le _) hs ho)]
  simp[Tr.sz,Tr.kids]
 |.un t,o,out,stk,r,h,hs,ho=>by
  have h':N.drop o=t.flat++(node 3 [] [] 1::r):=by rw[h];simp[Tr.flat]
  rw[Cd hN t o out stk _ h' hs ho]
  obtain ⟨h1,h2⟩:=jy h'
  rw[t.cq] at h1
  have h2:N[o+t.sz]=node 3 [] [] 1:=by simp only[t.cq] at h2;exact h2
  rw[aD (yC hN h1 h2 (by simp) (by have:=t.sT;simp;omega) (by simp[t.cR];omega))]
  have e1:(stk++[[C.i (o+t.sz-1:Nat)]]).length-1=stk.length:=by simp
  rw[e1,List.drop_left',List.take_left']<;>simp[Tr.sz,Tr.kids]
  rfl
 |.bn kd a b,o,out,stk,r,h,hs,ho=>by
  have h':N.drop o=a.flat++(b.flat++(node kd [] [] 2::r)):=by rw[h];simp[Tr.flat]
  have h'':N.drop (o+a.sz)=b.flat++(node kd [] [] 2::r):=by rw[←List.drop_drop,h',←a.cq];simp
  have ha:=a.sT
  have hb:=b.sT
  rw[Cd hN a o out stk _ h' hs ho,Cd hN b (o+a.sz) _ _ _ h'' (by simp;omega) (by simp[a.cR];omega)]
  obtain ⟨h1,h2⟩:=jy h''
  rw[b.cq] at h1
  have h2:N[o+a.sz+b.sz]=node kd [] [] 2:=by simp only[b.cq] at h2;exact h2
  rw[aD (yC hN h1 h2 (by simp) (by simp;omega) (by simp[a.cR,b.cR];omega))]
  have e1:(stk++[[C.i (o+a.sz-1:Nat)]]++[[C.i (o+a.sz+b.sz-1:Nat)]]).length-2=stk.length:=by simp
  have e2:stk++[[C.i (o+a.sz-1:Nat)]]++[[C.i (o+a.sz+b.sz-1:Nat)]]=stk++[[C.i (o+a.sz-1:Nat)],[C.i (o+a.sz+b.sz-1:Nat)]]:=by simp
  rw[e1,e2,List.drop_left',List.take_left']
  ·have e3:o+(Tr.bn kd a b).sz=o+a.sz+b.sz+1:=by simp only[Tr.sz];omega
   rw[e3]
   simp[Tr.kids]
  ·rfl
  ·rfl
theorem jU (t:Tr) (ht:t.sz<=1048576):ec [.l t.flat]=some [.b true,.l (t.kids 0)]:=by
 have hN:t.flat.length<=1048576:=by rw[t.cq];exact ht
 have h:=Cd hN t 0 [] [] [] (by simp) (by simp) (by simp)
 have he:apn 4 ec.d1 [.i (0+t.sz:Nat),.l t.flat,.l ([]++t.kids 0),.l ([]++[[.i (0+t.sz-1:Nat)]])]=some (.brk 0 [.l (t.kids 0),.l [[.i (t.sz-1:Nat)]]]):=by
  simp[ec.d1,t.cq]
 rw[aR he] at h
 simp only[ec,ec.d3,apL,jC,af]
 erw[h]
 simp[ec.d2]
end Go.Ev
namespace Go.Ev
section
variable {K:List (List C)} (hK:K.length<=1048576)
include hK
theorem vR (G:List C->Option (List C)) {ix:Nat} (hi:ix<K.length) {l:List (List C)} (hr:K[ix]=[.l l]) {d c e:Nat} (hd:d<l.length) (hl:l.length<=2) {kid:Nat} (hk:l[d]=[.i (kid:Nat)])
  (hG:G [.l K,.i (kid:Nat)]=some [.i (e:Nat)]) (he:e<big):
  apn 4 (bH.d1 G) [.l K,.i (ix:Nat),.i (c:Nat),.i (d:Nat)]=some (.again [.l K,.i (ix:Nat),.i (max c (e+1):Nat),.i (d+1:Nat)]):=by
 have hg:K.getD ix []=[.l l]:=by rw[Mm,Mg hi,hr];rfl
 have hgd:l.getD d []=[.i (kid:Nat)]:=by rw[Mm,Mg hd,hk];rfl
 have hw:=ua he
 have hwd:w64 ((d:Int)+1)=((d+1:Nat):Int):=ua (by simp only[big];omega)
 simp only[apL,jC,jD,bH.d1,C.I_i,C.L_l,jY,hg,hgd,hG,ad,jI,hw,hwd,jX,Mt,jR]
 have e1:((ix:Int)<(K.length:Int)):=by omega
 have e2:((d:Int)<(l.length:Int)):=by omega
 simp only[e1,e2,Mt,jR]
 by_cases h:((e+1:Nat):Int)>(c:Int)
 ·have:max c (e+1)=e+1:=by omega
  simp only[h,Mt,jR,this]
 ·have:max c (e+1)=c:=by omega
  simp only[h,Mu,jS,this]
theorem zB (G:List C->Option (List C)) {ix:Nat} (hi:ix<K.length) {l:List (List C)} (hr:K[ix]=[.l l]) {c:Nat}:
  apn 4 (bH.d1 G) [.l K,.i (ix:Nat),.i (c:Nat),.i (l.length:Nat)]=some (.brk 0 [.i (c:Nat)]):=by
 have hg:K.getD ix []=[.l l]:=by rw[Mm,Mg hi,hr];rfl
 simp only[apL,jC,jD,bH.d1,C.I_i,C.L_l,jY,hg]
 simp[hi]
theorem zL:∀(k:Nat) (t:Tr) (o:Nat) (r:List (List C)),t.depth<k->t.depth<big->K.drop o=t.kids o++r->bH.g k 0 [.l K,.i (o+t.sz-1:Nat)]=some [.i (t.depth:Nat)]
 |0,t,o,r,h,_,_=>by omega
 |k+1,t,o,r,h,hb,hd=>by
  have hs:∀x,bH.g (k+1) 0 x=bH.step (bH.g k 0) x:=fun _=>rfl
  rw[hs]
  simp only[bH.step,bH.d3,apL,jC,jD]
  cases t with
  |lf kd n v=>
   obtain ⟨h1,h2,_⟩:=drop_cons (show K.drop o=[.l []]::r from hd)
   have:=aR (zB hK (bH.g k 0) h1 h2 (c:=0))
   simp only[Mo,Int.ofNat_zero,Mr] at this
   have e:o+(Tr.lf kd n v).sz-1=o:=by simp[Tr.sz]
   rw[e,this]
   simp[bH.d2,Tr.depth]
  |un t=>
   simp only[Tr.depth] at h hb
   have h':K.drop o=t.kids o++([.l [[.i (o+t.sz-1:Nat)]]]::r):=by rw[hd];simp[Tr.kids]
   have ih:=zL k t o _ (by omega) (by omega) h'
   obtain ⟨h1,h2⟩:=jy h'
   rw[t.cR] at h1
   have h2:K[o+t.sz]=[.l [[.i (o+t.sz-1:Nat)]]]:=by simp only[t.cR] at h2;exact h2
   have e:o+(Tr.un t).sz-1=o+t.sz:=by simp[Tr.sz]
   have s1:=vR hK (bH.g k 0) h1 h2 (d:=0) (c:=0) (by simp) (by simp) (kid:=o+t.sz-1) rfl ih (by omega)
   have s2:=zB hK (bH.g k 0) h1 h2 (c:=max 0 (t.depth+1))
   simp only[Mr,Nat.zero_max,Mn,Mo,My] at s1 s2
   rw[e,aD s1,aR s2]
   simp[bH.d2,Tr.depth]
  |bn kd a b=>
   simp only[Tr.depth] at h hb
   have h':K.drop o=a.kids o++(b.kids (o+a.sz)++([.l [[.i (o+a.sz-1:Nat)],[.i (o+a.sz+b.sz-1:Nat)]]]::r)):=by rw[hd];simp[Tr.kids]
   have h'':K.drop (o+a.sz)=b.kids (o+a.sz)++([.l [[.i (o+a.sz-1:Nat)],[.i (o+a.sz+b.sz-1:Nat)]]]::r):=by
    rw[←List.drop_drop,h',←a.cR o];simp
   have iha:=zL k a o _ (by omega) (by omega) h'
   have ihb:=zL k b (o+a.sz) _ (by omega) (by omega) h''
   obtain ⟨h1,h2⟩:=jy h''
   rw[b.cR] at h1
   have h2:K[o+a.sz+b.sz]=[.l [[.i (o+a.sz-1:Nat)],[.i (o+a.sz+b.sz-1:Nat)]]]:=by simp only[b.cR] at h2;exact h2
   have e:o+(Tr.bn kd a b).sz-1=o+a.sz+b.sz:=by simp only[Tr.sz];omega
   have s1:=vR hK (bH.g k 0) h1 h2 (d:=0) (c:=0) (by simp) (by simp) (kid:=o+a.sz-1) rfl iha (by omega)
   have s2:=vR hK (bH.g k 0) h1 h2 (d:=1) (c:=max 0 (a.depth+1)) (by simp) (by simp) (kid:=o+a.sz+b.sz-1) rfl ihb (by omega)
   have s3:=zB hK (bH.g k 0) h1 h2 (c:=max (max 0 (a.depth+1)) (b.depth+1))
   simp only[Mr,Mn,Mo,My,Nat.reduceAdd] at s1 s2 s3
   rw[e,aD s1,aD s2,aR s3]
   have e2:max (max 0 (a.depth+1)) (b.depth+1)=max a.depth b.depth+1:=by omega
   rw[e2]
   simp[bH.d2,Tr.depth]
end
inductive OkN:List C->Prop
 |n1 (n:Tok) (h:bf (mkS n)=true):OkN (node 1 n [] 0)
 |n2 (n v:Tok) (h:bf (mkS n)=true) (h2:bf (mkS v)=true):OkN (node 2 n v 0)
 |n3:OkN (node 3 [] [] 1)
 |n4:OkN (node 4 [] [] 2)
 |n5:OkN (node 5 [] [] 2)
theorem Tr.okN:∀(t:Tr),t.Wf->∀r,r∈t.flat->OkN r
 |.lf k n v,h,r,hr=>by
  simp only[Tr.flat,MH] at hr
  subst hr
  rcases h with ⟨h1,⟨rfl,rfl⟩|⟨rfl,h2⟩⟩
  ·exact .n1 n h1
  ·exact .n2 n v h1 h2
 |.un t,h,r,hr=>by
  simp only[Tr.flat,MO,MH] at hr
  rcases hr with hr|rfl
  ·exact t.okN h r hr
  ·exact .n3
 |.bn k a b,h,r,hr=>by
  simp only[Tr.flat,MO,MH] at hr
  rcases hr with (hr|hr)|rfl
  ·exact a.okN h.2.1 r hr
  ·exact b.okN h.2.2 r hr
  ·rcases h.1 with rfl|rfl
   ·exact .n4
   ·exact .n5
theorem qM {s:Str} (h:bf s=true):s.size<=1048576:=by
 simp only[bf,within,Mk,Ms] at h
 omega
theorem emp:(mkS []).toList=[]:=eV _
theorem GB {N:List (List C)} (hN:N.length<=1048576) {i:Nat} (hi:i<N.length) (ho:OkN N[i]):
  apn 2 aO.d4 [.i i,.l N]=some (.again [.i (i+1:Nat),.l N]):=by
 have hw1:=w1 hi (show N.length<big by simp only[big];omega)
 have hg:N.getD i []=N[i]:=by rw[Mm,Mg hi];rfl
 have e0:((i:Int)<(N.length:Int)):=by omega
 have key:∀r,OkN r->N.getD i []=r->apn 2 aO.d4 [.i i,.l N]=some (.again [.i (i+1:Nat),.l N]):=by
  intro r hr hgr
  have z1:within 1 0 5=true:=rfl
  have z2:within 2 0 5=true:=rfl
  have z3:within 3 0 5=true:=rfl
  have z4:within 4 0 5=true:=rfl
  have z5:within 5 0 5=true:=rfl
  have t2:Int.toNat 2=2:=rfl
  have t3:Int.toNat 3=3:=rfl
  have t4:Int.toNat 4=4:=rfl
  have t5:Int.toNat 5=5:=rfl
  cases hr with
  |n1 n h=>
   simp only[apL,jC,jD,aO.d4,C.I_i,C.L_l,jY,hgr,node]
   simp[aO.d3,aO.d2,aO.d1,fU,z1,ad,cL _ (qM h),h,emp,fm,hw1,hi]
  |n2 n v h h2=>
   simp only[apL,jC,jD,aO.d4,C.I_i,C.L_l,jY,hgr,node]
   simp[aO.d3,aO.d2,aO.d1,fU,z2,t2,ad,cL _ (qM h),cL _ (qM h2),h,h2,emp,fm,hw1,hi]
  |n3=>
   simp only[apL,jC,jD,aO.d4,C.I_i,C.L_l,jY,hgr,node]
   simp[aO.d3,aO.d2,aO.d1,fU,z3,t3,ad,emp,fm,hw1,hi]
  |n4=>
   simp only[apL,jC,jD,aO.d4,C.I_i,C.L_l,jY,hgr,node]
   simp[aO.d3,aO.d2,aO.d1,fU,z4,t4,ad,emp,fm,hw1,hi]
  |n5=>
   simp only[apL,jC,jD,aO.d4,C.I_i,C.L_l,jY,hgr,node]
   simp[aO.d3,aO.d2,aO.d1,fU,z5,t5,ad,emp,fm,hw1,hi]
 exact key _ ho hg
theorem xb (t:Tr) (ht:t.sz<=400) (hw:t.Wf):aO [.l t.flat]=some [.b true]:=by
 have hN:t.flat.length<=1048576:=by rw[t.cq];omega
 have hloop:∀(k i:Nat),t.flat.length-i<=k->i<=t.flat.length->lim (apn 2 aO.d4) [.i i,.l t.flat]=some (.brk 0 []):=by
  intro k
  induction k with
  |zero=>
   intro i hk hi
   have:i=t.flat.length:=by omega
   subst this
   exact aR (by simp[aO.d4])
  |succ k ih=>
   intro i hk hi
   rcases Nat.lt_or_ge i t.flat.length with h|h
   ·rw[aD (GB hN h (t.okN hw _ (Mq h)))]
    exact ih (i+1) (by omega) (by omega)
   ·have:i=t.flat.length:=by omega
    subst this
    exact aR (by simp[aO.d4])
 have h0:=hloop _ 0 (Mp _) (Nat.zero_le _)
 simp only[Mr] at h0
 have e:¬((t.flat.length:Int)>400):=by rw[t.cq];omega
 simp only[aO,aO.d6,apL,jC,C.L_l,e,Mu,jS,jU t (by omega),call2,jI,C.B_b,jZ,h0]
 simp[aO.d5]
theorem BU (t:Tr) (ht:t.sz<=400) (hw:t.Wf):fW [.l t.flat]=some [.b (decide (t.depth<=20))]:=by
 have hd:=t.mX
 have hp:=t.sT
 have hF:=mr
 have hw1:w64 ((t.flat.length:Int)-1)=((0+t.sz-1:Nat):Int):=by rw[t.cq,aN (by omega) (by omega)];omega
 have hn:bH [.l (t.kids 0),.i (0+t.sz-1:Nat)]=some [.i (t.depth:Nat)]:=
  zL (K:=t.kids 0) (by rw[t.cR];omega) jd t 0 [] (by omega) (by simp only[big];omega) (by simp)
 simp only[fW,fW.d1,apL,jC,jD,xb t ht hw,ad,call2,jI,C.B_b,jZ,jS,jU t (by omega),C.L_l,hw1,hn,C.I_i,jV]
 have:decide ((t.depth:Int)<=20)=decide (t.depth<=20):=by
  rw[decide_eq_decide];omega
 rw[this]
end Go.Ev
namespace Go.Ev
theorem lex_nil:∀l:List UInt8,(dB l=[])↔l.all sp=true
 |[]=>by simp[dB]
 |c::r=>by
  rw[dB.eq_2]
  by_cases h:c=32
  ·subst h
   rw[if_pos rfl,List.all_cons,lex_nil r]
   simp[sp]
  ·rw[if_neg h]
   have:sp c=false:=by simp[sp,h]
   split<;>simp[this]
theorem Gc (s0:Str):∀(n:Nat) (l:List UInt8),l.length<=n->n<=1048576->∃q,lim (apn 2 aS.d1) [.s (mkS l),.i 32]=some (.brk 0 [.s (mkS q)])/\q.length<=l.length/\q.all sp=l.all sp
 |n,l,hn,hb=>by
  rcases List.eq_nil_or_concat l with rfl|⟨p,c,rfl⟩
  ·exact ⟨[],aR (by simp[aS.d1,oT]),Mp _,rfl⟩
  ·simp only[List.concat_eq_append] at hn⊢
   obtain ⟨n,rfl⟩:∃n',n=n'+1:=⟨n-1,by simp at hn;omega⟩
   have hsz:(mkS (p++[c])).size=p.length+1:=by rw[oT];simp
   have hw:w64 (((p.length+1:Nat):Int)-1)=(p.length:Nat):=by simp at hn;rw[aN (by omega) (by omega)];omega
   have hgd:(mkS (p++[c])).data.getD p.length 0=c:=by
    rw[eE (by rw[ib];simp)]
    simp[ib]
   have hext:(mkS (p++[c])).extract 0 p.length=mkS p:=by
    rw[my,ib];simp
   have e1:((p.length+1:Nat):Int)>0:=by omega
   have e2:(p.length:Int)<((p.length+1:Nat):Int):=by omega
   have e3:(p.length:Int)<=((p.length+1:Nat):Int):=by omega
   cases hc:sp c with
   |true=>
    have h:apn 2 aS.d1 [.s (mkS (p++[c])),.i 32]=some (.again [.s (mkS p),.i 32]):=by
     simp only[sp] at hc
     simp only[apL,jC,jD,aS.d1,C.S_s,C.I_i,hsz,hw,jY,hgd,bn c 32 32 rfl,hc,hext,e1,e2,e3,Mt,jR,jX]
    rw[aD h]
    obtain ⟨q,h1,h2,h3⟩:=Gc s0 n p (by simp at hn;omega) (by omega)
    exact ⟨q,h1,by simp;omega,by rw[h3];simp[hc]⟩
   |false=>
    refine ⟨p++[c],aR ?_,Mp _,rfl⟩
    simp only[sp] at hc
    simp only[apL,jC,jD,aS.d1,C.S_s,C.I_i,hsz,hw,jY,hgd,bn c 32 32 rfl,hc,e1,e2,Mt,jR,jS,jX]
theorem Fs:∀(l:List UInt8),l.length<=1048576->lim (apn 2 aW.d1) [.s (mkS l),.i 32]=some (.brk 0 [.s (mkS (l.dropWhile sp))])
 |[],hn=>aR (by simp[aW.d1,oT])
 |c::r,hn=>by
  have hsz:(mkS (c::r)).size=r.length+1:=rfl
  have hgd:(mkS (c::r)).data.getD 0 0=c:=by
   rw[eE (by rw[ib];simp)]
   simp[ib]
  have hext:(mkS (c::r)).extract 1 (r.length+1)=mkS r:=by
   rw[my,ib];simp
  have e1:((r.length+1:Nat):Int)>0:=by omega
  have e2:(1:Int)<=((r.length+1:Nat):Int):=by omega
  rw[List.dropWhile_cons]
  cases hc:sp c with
  |true=>
   have h:apn 2 aW.d1 [.s (mkS (c::r)),.i 32]=some (.again [.s (mkS r),.i 32]):=by
    simp only[sp] at hc
    have e1':(0:Int)<((r.length+1:Nat):Int):=by omega
    simp only[apL,jC,jD,aW.d1,C.S_s,C.I_i,hsz,jY,hgd,bn c 32 32 rfl,hc,hext,e1,e1',e2,Mt,jR,Int.le_refl]
   rw[aD h]
   simp only[Mn] at hn
   simpa using Fs r (by omega)
  |false=>
   refine aR ?_
   simp only[sp] at hc
   have e1':(0:Int)<((r.length+1:Nat):Int):=by omega
   simp only[apL,jC,jD,aW.d1,C.S_s,C.I_i,hsz,jY,hgd,bn c 32 32 rfl,hc,e1,e1',Mt,jR,jS]
   rfl
theorem sQ (l:List UInt8):l.dropWhile sp=[]↔l.all sp=true:=by
 induction l with
 |nil=>simp
 |cons c r ih=>
  rw[List.dropWhile_cons,List.all_cons]
  cases hc:sp c<;>simp[ih]
theorem KV (s:Str) (hl:s.size<=1048576):∃z,fw [.s s,.s (bs #[32])]=some [.s z]/\(z.toList==(bs #[]).toList)=s.data.toList.all sp:=by
 have hb32:bs #[32]=mkS [32]:=rfl
 simp only[fw,fw.d2,apL,jC,jD,C.S_s]
 cases hq:(s.toList==(bs #[]).toList) with
 |true=>
  have:s=mkS []:=(dc s (bs #[])).1 hq
  subst this
  refine ⟨mkS [],?_,?_⟩
  ·simp
  ·rw[hq];rfl
 |false=>
  have h32:((bs #[32]).toList==(bs #[]).toList)=false:=by
   rw[hb32,eV,fm,eV];rfl
  have hsz:(bs #[32]).size=1:=rfl
  have hgd:(bs #[32]).data.getD 0 0=32:=rfl
  obtain ⟨q,h1,h2,h3⟩:=Gc s s.data.toList.length s.data.toList (Mp _) (by rw[←dy];exact hl)
  rw[KF] at h1
  have h4:=Fs q (by rw[←dy] at h2;omega)
  refine ⟨mkS (q.dropWhile sp),?_,?_⟩
  ·have e1:(((32:UInt8).toNat:Nat):Int)=32:=rfl
   have e2:((1:Nat):Int)=1:=rfl
   simp only[ja,jR,h32,jS,hsz,hgd,e1,e2,aS,aS.d3,aW,aW.d3,apL,jC,jD,h1,aq,aS.d2,jV,ad,jI]
   simp[h4,aW.d2]
  ·rw[←h3,eV,fm,eV,ib,ib]
   cases hall:q.all sp with
   |true=>rw[(sQ q).2 hall];rfl
   |false=>
    cases hd:q.dropWhile sp with
    |nil=>rw[(sQ q).1 hd] at hall;simp at hall
    |cons c r=>rfl
inductive PR where
 |err (n:Nat)
 |all
 |tree (t:Tr)
def pp (s:Str):PR:=
 if 200<s.size then .err 1
 else if s.data.toList.all sp=true then .all
 else match prs 1000 0 (dB s.data.toList) with
  |some (t,[])=>if t.depth<=20 then .tree t else .err 3
  |_=>.err 2
def PR.nodes:PR->List (List C)
 |.err _=>[]
 |.all=>[node 0 [] [] 0]
 |.tree t=>t.flat
def PR.code:PR->Nat
 |.err n=>n
 |_=>0
def PR.ptr:PR->C
 |.err _=>.nil
 |.all=>.p [.i 0,.s (mkS []),.s (mkS []),.l []]
 |.tree t=>t.enc
theorem I6 {s:Str} {t:Tr} (h:pp s=.tree t):t.Wf/\t.sz<=200/\t.depth<=20:=by
 unfold pp at h
 split at h
 ·simp at h
 ·rename_i hs
  split at h
  ·simp at h
  ·split at h
   ·rename_i u hq
    split at h
    ·rename_i hd
     simp only[PR.tree.injEq] at h
     subst h
     obtain ⟨p,h1,h2,h3,h4⟩:=oz _ _ _ _ _ hq
     have:=(sr _ s.data.toList (Mp _)).1
     rw[h1] at this
     rw[←dy] at this
     simp at this
     exact ⟨h4,by omega,hd⟩
    ·simp at h
   ·simp at h
theorem qg (s:Str) (hl:s.size<=1048576):gh [.s s]=some [.l (pp s).nodes,.i ((pp s).code:Nat)]:=by
 have hF:=mr
 simp only[gh,gh.d1,apL,jC,C.S_s]
 by_cases hs:(s.size:Int)>200
 ·have h200:200<s.size:=by omega
  simp[hs,pp,h200,PR.nodes,PR.code]
 have h200:¬200<s.size:=by omega
 simp only[hs,Mu,jS]
 have hlen:=sr _ s.data.toList (Mp _)
 rw[←dy] at hlen
 rcases Am s hl with ⟨hg,ht⟩|⟨hg,o,ht⟩
 ·simp only[ht,call2,jI,jC,jD,C.B_b,jZ,jS,C.L_l,jW]
  cases hall:s.data.toList.all sp with
  |true=>
   have:dB s.data.toList=[]:=(lex_nil _).2 hall
   rw[this]
   simp[pp,h200,hall,PR.nodes,PR.code,node,fm]
  |false=>
   have hne:dB s.data.toList≠[]:=fun h=>by rw[(lex_nil _).1 h] at hall;simp at hall
   have hlp:0<(dB s.data.toList).length:=List.length_pos_iff.2 hne
   have hz:(((dB s.data.toList).length:Int)==0)=false:=by rw[Ns];omega
   obtain ⟨nodes,a',bad,hgo,q1,q2,q3,q4⟩:=Kn (T:=dB s.data.toList) (by omega) (fun t ht=>by have:=hlen.2 t ht;omega) 1000 0 jd 0 (by omega) (by omega) (by omega) (by omega)
   have hgo:ak [.l ((dB s.data.toList).map tk),.i 0,.b false]=_:=hgo
   simp only[hz,jS,hgo,call4,jI,jC,jD,C.B_b,C.I_i]
   simp only[Nb] at q4
   simp only[pp,if_neg h200,hall,Bool.false_eq_true,if_false]
   cases hp:prs 1000 0 (dB s.data.toList) with
   |none=>
    rw[hp] at q4
    simp only at q4
    subst q4
    simp[PR.nodes,PR.code]
   |some z=>
    obtain ⟨t,r⟩:=z
    rw[hp] at q4
    obtain ⟨rfl,rfl,q5,q6⟩:=q4
    simp only[ja,jR]
    have hrl:r.length=(dB s.data.toList).length-a':=by rw[←q5];simp
    cases r with
    |cons x r=>
     simp only[Mn] at hrl
     have:(a':Int)<((dB s.data.toList).length:Int):=by omega
     simp[this,PR.nodes,PR.code]
    |nil=>
     simp only[Mo] at hrl
     have:¬(a':Int)<((dB s.data.toList).length:Int):=by omega
     obtain ⟨p,h1,h2,h3,h4⟩:=oz _ _ _ _ _ hp
     have h5:t.sz<=400:=by
      have:=hlen.1
      rw[h1] at this
      simp at this
      omega
     simp only[this,Mu,jS,BU t h5 h4,ad,jI,jC,C.B_b]
     by_cases hd:t.depth<=20<;>simp[hd,PR.nodes,PR.code]
 ·simp only[ht,call2,jI,jC,jD,C.B_b,ja,jR,jV,af]
  have hcode:pp s=.err 2:=by
   unfold pp
   rw[if_neg h200,if_neg]
   ·split
    ·rename_i t hq
     obtain ⟨p,h1,h2,h3,h4⟩:=oz _ _ _ _ _ hq
     have:=sx _ s.data.toList (Mp _) (fun x hx=>h2 x (by rw[h1] at hx;simpa using hx))
     rw[this] at hg;simp at hg
    ·rfl
   ·intro hall
    have:s.data.toList.all iq=true:=by
     rw[Ni] at hall⊢
     intro x hx
     have:=hall x hx
     simp only[sp] at this
     simp[iq,this]
    rw[this] at hg;simp at hg
  rw[hcode]
  rfl
theorem qH (s:Str) (hl:s.size<=1048576):kr [.s s]=some [(pp s).ptr,.i ((pp s).code:Nat)]:=by
 have hF:=mr
 simp only[kr,kr.d1,apL,jC,C.S_s]
 by_cases hs:(s.size:Int)>200
 ·have h200:200<s.size:=by omega
  simp[hs,pp,h200,PR.ptr,PR.code]
 have h200:¬200<s.size:=by omega
 have hlen:=sr _ s.data.toList (Mp _)
 rw[←dy] at hlen
 obtain ⟨z,hz,hz2⟩:=KV s hl
 simp only[hs,Mu,jS,hz,ad,jI,jC,C.S_s,hz2]
 cases hall:s.data.toList.all sp with
 |true=>simp[pp,h200,hall,PR.ptr,PR.code,fm]
 |false=>
  obtain ⟨c,i',ok,hgo,q1,q2⟩:=Kp (s:=s) hl 1000 0 jd 0 (by omega) (by omega) (by simp only[Nb];omega) (by omega)
  have hgo:av [.s s,.i 0,.b true]=_:=hgo
  simp only[Nb] at q2
  simp only[jS,hgo,call4,jI,jC,jD,HH hl i' ok q1,call3,C.B_b,C.I_i]
  simp only[pp,if_neg h200,hall,Bool.false_eq_true,if_false]
  cases hp:prs 1000 0 (dB s.data.toList) with
  |none=>
   rw[hp] at q2
   simp only at q2
   subst q2
   simp[PR.ptr,PR.code]
  |some y=>
   obtain ⟨t,r⟩:=y
   rw[hp] at q2
   obtain ⟨rfl,rfl,q3,q4⟩:=q2
   have hgd:=Ca (s:=s) i'
   have hlt:=uN (s.data.toList.drop i')
   rw[q3,←hgd] at hlt
   simp only[jZ,ja,jR,jS]
   cases r with
   |cons x r=>
    have:(gp s i':Int)<(s.size:Int):=by
     rcases Nat.lt_or_ge (gp s i') s.size with h|h
     ·omega
     ·rw[dy] at h
      rw[List.drop_eq_nil_of_le h] at hlt
      simp[dB] at hlt
    simp[this,PR.ptr,PR.code]
   |nil=>
    have:¬(gp s i':Int)<(s.size:Int):=by
     intro h
     have h:gp s i'<s.data.toList.length:=by rw[←dy];omega
     have h1:=(lex_nil _).1 hlt
     rw[hgd] at h1
     have h2:((s.data.toList.drop i').dropWhile sp).length=s.data.toList.length-gp s i':=by rw[←hgd];simp
     cases hq:(s.data.toList.drop i').dropWhile sp with
     |nil=>rw[hq] at h2;simp at h2;omega
     |cons x r=>
      have:=yo hq
      rw[hq] at h1
      simp[sp] at h1
      exact this h1.1
    obtain ⟨p,h1,h2,h3,h4⟩:=oz _ _ _ _ _ hp
    have h5:t.sz<=400:=by
     have:=hlen.1
     rw[h1] at this
     simp at this
     omega
    have hdl:=t.mX
    have hdep:aw [t.enc]=some [.i (t.depth:Nat)]:=xR jd t (by omega) (by simp only[big];omega)
    simp only[this,Mu,jS,hdep,ad,jI,jC,C.I_i]
    by_cases hd:t.depth<=20
    ·have hd':¬(t.depth:Int)>20:=by omega
     simp only[hd',Mu,jS,jV]
     simp[hd,PR.ptr,PR.code]
    ·have hd':(t.depth:Int)>20:=by omega
     simp only[hd',Mt,jR,jV]
     simp[hd,PR.ptr,PR.code]
end Go.Ev
namespace Go.Ev
def ew {α:Type} (p:α->Bool):List α->Nat->Int
 |[],_=>-1
 |x::r,n=>bif p x then n else ew p r (n+1)
def aA (p:Nat->Bool):Nat->Nat->Bool
 |_,0=>true
 |i,k+1=>p i&&aA p (i+1) k
theorem cj (p:Nat->Bool):∀(k i:Nat),aA p i k=true↔∀j,i<=j->j<i+k->p j=true
 |0,i=>by simp[aA];omega
 |k+1,i=>by
  simp only[aA,Mk,cj p k (i+1)]
  constructor
  ·rintro ⟨h1,h2⟩ j hj hk
   rcases Nat.lt_or_eq_of_le hj with h|rfl
   ·exact h2 j h (by omega)
   ·exact h1
  ·intro h
   exact ⟨h i (Mp _) (by omega),fun j h1 h2=>h j (by omega) (by omega)⟩
theorem dz {body:List C->R} {S:Nat->List C} {p:Nat->Bool} {n b:Nat} {ys r:List C} (hs:∀i,i<n->body (S i)=bif p i then some (.again (S (i+1))) else some (.ret r)) (he:body (S n)=some (.brk b ys)):
  ∀k i,k+i=n->lim body (S i)=bif aA p i k then some (.brk b ys) else some (.ret r)
 |0,i,h=>by
  have:i=n:=by omega
  subst this
  rw[aR he];rfl
 |k+1,i,h=>by
  have h1:=hs i (by omega)
  simp only[aA]
  cases hp:p i with
  |true=>
   rw[hp] at h1
   rw[aD h1,dz hs he k (i+1) (by omega)]
   simp
  |false=>
   rw[hp] at h1
   rw[js h1]
   simp
theorem bQ {body:List C->R} {S:Nat->List C} {n b:Nat} {ys:List C} (hs:∀i,i<n->body (S i)=some (.again (S (i+1)))) (he:body (S n)=some (.brk b ys)):
  ∀k i,k+i=n->lim body (S i)=some (.brk b ys)
 |0,i,h=>by
  have:i=n:=by omega
  subst this
  exact aR he
 |k+1,i,h=>by rw[aD (hs i (by omega))];exact bQ hs he k (i+1) (by omega)
theorem kP {α:Type} {l:List α} {body:List C->R} {S:Nat->List C} {p:α->Bool} {b:Nat} (hs:∀i (h:i<l.length),body (S i)=bif p l[i] then some (.ret [.i (i:Nat)]) else some (.again (S (i+1)))) (he:body (S l.length)=some (.brk b [])):
  ∀k i,k+i=l.length->ah b (lim body (S i)) (fun _=>some (.ret [.i (-1)]))=some (.ret [.i (ew p (l.drop i) i)])
 |0,i,h=>by
  have:i=l.length:=by omega
  subst this
  rw[aR he];simp[ew]
 |k+1,i,h=>by
  have hi:i<l.length:=by omega
  have h1:=hs i hi
  rw[MU hi]
  simp only[ew]
  cases hp:p l[i] with
  |true=>rw[hp] at h1;rw[js h1];simp
  |false=>rw[hp] at h1;rw[aD h1,kP hs he k (i+1) (by omega)];simp
def bIx (f:Fl) (nm:Str):Int:=ew (fun x:Bt=>sEq x.name nm) f.bts 0
def sIx (f:Fl) (nm:Str):Int:=ew (fun x:Sv=>sEq x.name nm) f.svs 0
def cIx (f:Fl) (nm:Str):Int:=ew (fun x:Cp=>sEq x.name nm) f.cps 0
theorem yy (f:Fl) (nm:Str) (hl:f.svs.length<=1048576):dp (f.e++[.s nm])=some [.i (sIx f nm)]:=by
 have h:=kP (l:=f.svs) (body:=apn 6 dp.d1) (S:=fun i=>[.s nm,.i (i:Nat),.b f.pack,.l (f.bts.map Bt.e),.l (f.svs.map Sv.e),.l (f.cps.map Cp.e)]) (p:=fun x=>sEq x.name nm) (b:=0)
  (fun i hi=>by
   simp only[apL,jC,jD,dp.d1,C.I_i,C.L_l,C.S_s,jW,jY,getD_map' Sv.e hi,w1 hi (show f.svs.length<big by simp only[big];omega)]
   simp only[Sv.e,jC,C.S_s]
   cases hs:sEq f.svs[i].name nm<;>simp only[sEq] at hs<;>simp[hs,hi])
  (by simp[dp.d1]) f.svs.length 0 rfl
 simp only[dp,dp.d3,Fl.e,jA,jB,apL,jC,jD]
 rw[show (fun xs:List C=>dp.d2)=fun _=>some (.ret [.i (-1)]) from rfl]
 erw[h]
 rfl
theorem ko (f:Fl) (nm:Str) (hl:f.bts.length<=1048576):di (f.e++[.s nm])=some [.i (bIx f nm)]:=by
 have h:=kP (l:=f.bts) (body:=apn 6 di.d1) (S:=fun i=>[.s nm,.i (i:Nat),.b f.pack,.l (f.bts.map Bt.e),.l (f.svs.map Sv.e),.l (f.cps.map Cp.e)]) (p:=fun x=>sEq x.name nm) (b:=0)
  (fun i hi=>by
   simp only[apL,jC,jD,di.d1,C.I_i,C.L_l,C.S_s,jW,jY,getD_map' Bt.e hi,w1 hi (show f.bts.length<big by simp only[big];omega)]
   simp only[Bt.e,jC,C.S_s]
   cases hs:sEq f.bts[i].name nm<;>simp only[sEq] at hs<;>simp[hs,hi])
  (by simp[di.d1]) f.bts.length 0 rfl
 simp only[di,di.d3,Fl.e,jA,jB,apL,jC,jD]
 rw[show (fun xs:List C=>di.d2)=fun _=>some (.ret [.i (-1)]) from rfl]
 erw[h]
 rfl
theorem gj (f:Fl) (nm:Str) (hl:f.cps.length<=1048576):dx (f.e++[.s nm])=some [.i (cIx f nm)]:=by
 have h:=kP (l:=f.cps) (body:=apn 6 dx.d1) (S:=fun i=>[.s nm,.i (i:Nat),.b f.pack,.l (f.bts.map Bt.e),.l (f.svs.map Sv.e),.l (f.cps.map Cp.e)]) (p:=fun x=>sEq x.name nm) (b:=0)
  (fun i hi=>by
   simp only[apL,jC,jD,dx.d1,C.I_i,C.L_l,C.S_s,jW,jY,getD_map' Cp.e hi,w1 hi (show f.cps.length<big by simp only[big];omega)]
   simp only[Cp.e,jC,C.S_s]
   cases hs:sEq f.cps[i].name nm<;>simp only[sEq] at hs<;>simp[hs,hi])
  (by simp[dx.d1]) f.cps.length 0 rfl
 simp only[dx,dx.d3,Fl.e,jA,jB,apL,jC,jD]
 rw[show (fun xs:List C=>dx.d2)=fun _=>some (.ret [.i (-1)]) from rfl]
 erw[h]
 rfl
theorem jj (f:Fl) (nm:Str) (hl:f.bts.length<=1048576):ft (f.e++[.s nm])=some [.i (bIx f nm)]:=by
 have h:=kP (l:=f.bts) (body:=apn 4 aJ.d1) (S:=fun i=>[.l (f.bts.map Bt.e),.p [.s nm],.i (f.bts.length:Nat),.i (i:Nat)]) (p:=fun x=>sEq x.name nm) (b:=0)
  (fun i hi=>by
   simp only[apL,jC,jD,aJ.d1,C.I_i,C.L_l,C.S_s,jW,jY,getD_map' Bt.e hi,w1 hi (show f.bts.length<big by simp only[big];omega)]
   simp only[Bt.e,jC,jD,iS,iS.d1,apL,C.S_s,C.wT,C.P_p,jR,jV,ad,jI,C.B_b]
   cases hs:sEq f.bts[i].name nm<;>simp only[sEq] at hs<;>simp[hs,hi])
  (by simp[aJ.d1]) f.bts.length 0 rfl
 simp only[ft,ft.d1,aJ,aJ.d3,Fl.e,jA,jB,apL,jC,jD,C.L_l,jW]
 rw[show (fun xs:List C=>aJ.d2)=fun _=>some (.ret [.i (-1)]) from rfl]
 erw[h]
 rfl
theorem kz (f:Fl) (nm:Str) (hl:f.cps.length<=1048576):gM (f.e++[.s nm])=some [.i (cIx f nm)]:=by
 have h:=kP (l:=f.cps) (body:=apn 4 aK.d1) (S:=fun i=>[.l (f.cps.map Cp.e),.p [.s nm],.i (f.cps.length:Nat),.i (i:Nat)]) (p:=fun x=>sEq x.name nm) (b:=0)
  (fun i hi=>by
   simp only[apL,jC,jD,aK.d1,C.I_i,C.L_l,C.S_s,jW,jY,getD_map' Cp.e hi,w1 hi (show f.cps.length<big by simp only[big];omega)]
   simp only[Cp.e,jC,jD,jP,jP.d1,apL,C.S_s,C.wT,C.P_p,jR,jV,ad,jI,C.B_b]
   cases hs:sEq f.cps[i].name nm<;>simp only[sEq] at hs<;>simp[hs,hi])
  (by simp[aK.d1]) f.cps.length 0 rfl
 simp only[gM,gM.d1,aK,aK.d3,Fl.e,jA,jB,apL,jC,jD,C.L_l,jW]
 rw[show (fun xs:List C=>aK.d2)=fun _=>some (.ret [.i (-1)]) from rfl]
 erw[h]
 rfl
def gD (s:Str):Str:=mkS (s.data.toList.takeWhile (· !=61))
def iO (s:Str):Str:=mkS (s.data.toList.dropWhile (· !=61)).tail
def sy (s:Str):Bool:=bf (gD s)&&((s.data.toList.dropWhile (· !=61)).isEmpty||bf (iO s))
theorem rZ {s:Str} {l:List UInt8} (hl:s.size<=1048576) (h:l.length<=s.data.toList.length):(mkS l).size<=1048576:=by
 rw[oT];rw[dy] at hl;omega
theorem rn (s:Str) (hl:s.size<=1048576):dZ [.s s]=some [.s (gD s),.s (iO s),.b (sy s)]:=by
 have key:∀(k i:Nat),s.data.toList.length-i<=k->i<=s.data.toList.length->(s.data.toList.takeWhile (· !=61)).length=i+((s.data.toList.drop i).takeWhile (· !=61)).length->
   ah 0 (lim (apn 2 dZ.d1) [.s s,.i i]) (apn 1 dZ.d2)=some (.ret [.s (gD s),.s (iO s),.b (sy s)]):=by
  intro k
  induction k with
  |zero=>
   intro i hk hi hr
   have e:i=s.data.toList.length:=by omega
   have hd:s.data.toList.drop i=[]:=List.drop_eq_nil_of_le (by omega)
   rw[hd] at hr
   simp only[List.takeWhile_nil,Mo,Nat.add_zero] at hr
   have hdw:s.data.toList.dropWhile (· !=61)=[]:=by rw[←lD,hr];exact List.drop_eq_nil_of_le (by omega)
   have htw:s.data.toList.takeWhile (· !=61)=s.data.toList:=by
    have:=List.takeWhile_append_dropWhile (p:=fun x:UInt8=>x !=61) (l:=s.data.toList)
    rw[hdw,M1] at this;exact this
   rw[aR (i:=0) (ys:=[.s s]) (by rw[e,←dy];simp[dZ.d1])]
   have h1:gD s=s:=by unfold gD;rw[htw];rfl
   have h2:iO s=mkS []:=by unfold iO;rw[hdw];rfl
   simp[dZ.d2,cL s hl,ad,sy,h1,h2,hdw,fm]
  |succ k ih=>
   intro i hk hi hr
   rcases Nat.lt_or_ge i s.data.toList.length with hlt|hge
   ·have his:i<s.size:=by rw[dy];exact hlt
    have hw:=w1 his (show s.size<big by simp only[big];omega)
    have hd:=MU hlt
    rw[hd,List.takeWhile_cons] at hr
    by_cases hc:s.data.toList[i]=61
    ·have hb:(s.data.toList[i] !=61)=false:=by rw[hc];rfl
     rw[hb] at hr
     simp only[Bool.false_eq_true,if_false,Mo,Nat.add_zero] at hr
     have h1:s.extract 0 i=gD s:=by
      rw[my,Nb];unfold gD;rw[←hr,rP]
     have h2:s.extract (i+1) s.size=iO s:=by
      rw[my,dy,Na];unfold iO
      rw[←lD,hr,List.tail_drop]
     have hn1:(gD s).size<=1048576:=rZ hl (sf _ _)
     have hn2:(iO s).size<=1048576:=rZ hl (by
      have:=(List.dropWhile_suffix (l:=s.data.toList) (· !=61)).length_le
      rw[List.length_tail];omega)
     have hdw:(s.data.toList.dropWhile (· !=61)).isEmpty=false:=by
      rw[←lD,hr,hd];rfl
     have e1:(i:Int)<=(s.size:Int):=by omega
     have e2:((i+1:Nat):Int)<=(s.size:Int):=by omega
     have hbn:=bn s.data.toList[i] 61 61 rfl
     have hbt:(s.data.toList[i]==61)=true:=by rw[hc];rfl
     have h:apn 2 dZ.d1 [.s s,.i i]=some (.ret [.s (gD s),.s (iO s),.b (sy s)]):=by
      simp only[apL,jC,jD,dZ.d1,C.I_i,C.S_s,jY,eE hlt,hw,hbn,hbt,h1,h2,cL _ hn1,cL _ hn2,ad,jI,C.B_b,e1,e2,Mt,jR,jX,Int.le_refl,sy,hdw,Nj]
      cases bf (gD s)<;>simp[his]
     rw[js h];simp
    ·have hb:(s.data.toList[i] !=61)=true:=by rw[bne_iff_ne];exact hc
     rw[hb] at hr
     simp only[if_true,Mn] at hr
     have hbn:=bn s.data.toList[i] 61 61 rfl
     have hbf:(s.data.toList[i]==61)=false:=by rw[Ns];exact hc
     have h:apn 2 dZ.d1 [.s s,.i i]=some (.again [.s s,.i (i+1:Nat)]):=by
      simp only[apL,jC,jD,dZ.d1,C.I_i,C.S_s,jY,eE hlt,hw,hbn,hbf]
      simp[his]
     rw[aD h]
     exact ih (i+1) (by omega) (by omega) (by omega)
   ·exact ih i (by omega) hi hr
 have:=key _ 0 (Mp _) (Nat.zero_le _) (by simp)
 simp only[dZ,dZ.d3,apL,jC]
 erw[this]
 rfl
theorem tM:∀l:List UInt8,Lib.indexByte l 61=if (l.dropWhile (· !=61)).isEmpty then-1 else ((l.takeWhile (· !=61)).length:Int)
 |[]=>rfl
 |c::r=>by
  simp only[Lib.indexByte,tM r,List.dropWhile_cons,List.takeWhile_cons]
  by_cases hc:c=61
  ·subst hc;simp
  ·have hb:(c !=61)=true:=by simp[hc]
   have hb2:(c==61)=false:=by simp[hc]
   rw[hb,hb2]
   simp only[if_true,Bool.false_eq_true,if_false]
   cases (r.dropWhile (· !=61)).isEmpty with
   |true=>simp
   |false=>
    have:¬((((r.takeWhile (· !=61)).length:Int)==-1)=true):=by rw[MY];omega
    simp only[Bool.false_eq_true,if_false,if_neg this,Mn]
    omega
theorem zD (s:Str) (hl:s.size<=1048576):nM [.s s]=some [.s (gD s),.s (iO s),.b (sy s)]:=by
 have e1:(bs #[61]).size=1:=rfl
 have e2:(bs #[61]).data.getD 0 0=61:=rfl
 have hix:bc [.s s,.s (bs #[61])]=some [.i (Lib.indexByte s.data.toList 61)]:=by
  have e3:Nat.toUInt8 (((61:UInt8).toNat:Nat):Int).toNat=61:=rfl
  have e5:((((1:Nat):Int)==0))=false:=rfl
  have e6:((((1:Nat):Int)==1))=true:=rfl
  have e7:(0:Int)<((1:Nat):Int):=by omega
  simp only[bc,bc.d2,apL,jC,jD,C.S_s,e1,e5,ja,jR,jJ]
  cases hq:((bs #[61]).toList==s.toList) with
  |true=>
   have:bs #[61]=s:=(dc (bs #[61]) s).1 hq
   subst this
   simp[bc.d1]
   decide
  |false=>
   simp only[bc.d1,C.B_b,C.I_i,C.S_s,jS,jR,e1,e6,e7,Mt,e2,eT,ibF,jC,jD,e3,ad,jI,jV]
 rw[tM] at hix
 have hn1:(gD s).size<=1048576:=rZ hl (sf _ _)
 have hn2:(iO s).size<=1048576:=rZ hl (by
  have:=(List.dropWhile_suffix (l:=s.data.toList) (· !=61)).length_le
  rw[List.length_tail];omega)
 simp only[nM,nM.d1,j5,j5.d1,dh,dh.d1,apL,jC,jD,hix,ad,jI,C.I_i,C.S_s,e1]
 cases he:(s.data.toList.dropWhile (· !=61)).isEmpty with
 |true=>
  have hdw:s.data.toList.dropWhile (· !=61)=[]:=by simpa using he
  have htw:s.data.toList.takeWhile (· !=61)=s.data.toList:=by
   have:=List.takeWhile_append_dropWhile (p:=fun x:UInt8=>x !=61) (l:=s.data.toList)
   rw[hdw,M1] at this;exact this
  have h1:gD s=s:=by unfold gD;rw[htw];rfl
  have h2:iO s=mkS []:=by unfold iO;rw[hdw];rfl
  have e8:¬((-1:Int)≥0):=by omega
  simp only[if_true,e8,Mu,jS,jV,call3,jI,jC,jD,C.B_b,gx s hl,sy,he,Bool.true_or,Bool.and_true,h1,h2,fm]
  cases bf s<;>simp
 |false=>
  have hlt:(s.data.toList.takeWhile (· !=61)).length<s.data.toList.length:=by
   have h:=congrArg List.length (List.takeWhile_append_dropWhile (p:=fun x:UInt8=>x !=61) (l:=s.data.toList))
   rw[MP] at h
   cases hq:s.data.toList.dropWhile (· !=61) with
   |nil=>rw[hq] at he;simp at he
   |cons x r=>rw[hq] at h;simp only[Mn] at h;omega
  have his:(s.data.toList.takeWhile (· !=61)).length<s.size:=by rw[dy];exact hlt
  have hw:=w1 his (show s.size<big by simp only[big];omega)
  have h1:s.extract 0 (s.data.toList.takeWhile (· !=61)).length=gD s:=by
   rw[my,Nb];unfold gD;rw[rP]
  have h2:s.extract ((s.data.toList.takeWhile (· !=61)).length+1) s.size=iO s:=by
   rw[my,dy,Na];unfold iO
   rw[←lD,List.tail_drop]
  have e3:(((s.data.toList.takeWhile (· !=61)).length:Int)≥0):=by omega
  have e4:((s.data.toList.takeWhile (· !=61)).length:Int)<=(s.size:Int):=by omega
  have e5:(((s.data.toList.takeWhile (· !=61)).length+1:Nat):Int)<=(s.size:Int):=by omega
  have e6:((1:Nat):Int)=1:=rfl
  simp only[Bool.false_eq_true,if_false,e6,hw,e3,e4,e5,Mt,jR,jX,Int.le_refl,jY,h1,h2,jV,call3,jI,jC,jD,C.B_b,gx _ hn1,gx _ hn2,sy,he,Nj,jZ,ja]
  cases bf (gD s)<;>cases bf (iO s)<;>simp
end Go.Ev
namespace Go.Ev
def sLt (a b:Str):Bool:=Op.bytesLess a.toList b.toList
theorem sO:∀(a b:List UInt8),(Op.bytesLess a b||a==b)=!Op.bytesLess b a
 |[],[]=>by simp[Op.bytesLess]
 |[],_::_=>by simp[Op.bytesLess]
 |_::_,[]=>by simp[Op.bytesLess]
 |x::a,y::b=>by
  have ih:=sO a b
  simp only[Op.bytesLess]
  rcases Nat.lt_trichotomy x.toNat y.toNat with h|h|h
  ·have h1:x<y:=h
   have h2:¬y<x:=fun h'=>Nat.lt_asymm h h'
   have h3:¬y=x:=fun e=>by subst e;exact Nat.lt_irrefl _ h
   simp[h1,h2,h3]
  ·have e:x=y:=UInt8.toNat_inj.1 h
   subst e
   have:¬x<x:=Nat.lt_irrefl x.toNat
   simp only[this,Mu,beq_self_eq_true,Nj,Mx]
   simpa using ih
  ·have h1:¬x<y:=fun h'=>Nat.lt_asymm h h'
   have h2:y<x:=h
   have h3:¬x=y:=fun e=>by subst e;exact Nat.lt_irrefl _ h
   simp[h1,h2,h3]
theorem Cl (a b:Str):(sLt a b||sEq a b)=!sLt b a:=sO _ _
theorem oQ (z v:C) (k k':Str):∀es:List (List C),j7 z k (l8 k' v es)=bif sEq k k' then v else j7 z k es
 |[]=>by simp[l8,j7,sEq]
 |r::es=>by
  simp only[l8]
  cases h:(k'.toList==(r.getD 0 .nil).S.toList) with
  |true=>
   have e:k'=(r.getD 0 .nil).S:=(dc _ _).1 h
   simp only[jR,j7,jC,jD,C.S_s]
   cases hk:sEq k k' with
   |true=>
    have h1:(k.toList==k'.toList)=true:=hk
    rw[h1];rfl
   |false=>
    have h1:(k.toList==k'.toList)=false:=hk
    have h2:(k.toList==(r.getD 0 .nil).S.toList)=false:=by rw[←e];exact hk
    rw[h1,h2];rfl
  |false=>
   simp only[jS,j7,oQ z v k k' es]
   cases h2:sEq k k' with
   |true=>
    have e:=(dc _ _).1 h2
    subst e
    rw[h];rfl
   |false=>simp
theorem nq (a b:Str):sEq a b=sEq b a:=by
 rw[Bool.eq_iff_iff,dc,dc];exact eq_comm
def sAt (ms:List Str) (i:Nat):Str:=ms.getD i (mkS [])
theorem eu {ms:List Str} {i:Nat} (h:i<ms.length):sAt ms i=ms[i]:=by
 unfold sAt;rw[Mm,Mg h];rfl
def Ad (ms:List Str) (nm:Str) (i:Nat):Bool:=aA (fun k=>!sEq (gD (sAt ms k)) nm) 0 i
def oD (ms:List Str) (i:Nat):Bool:=sy (sAt ms i)&&(i==0||sLt (sAt ms (i-1)) (sAt ms i))&&Ad ms (gD (sAt ms i)) i
def sk (ms:List Str):Bool:=decide (ms.length<=10)&&aA (oD ms) 0 ms.length
theorem uf (p:Nat->Bool):∀(k i:Nat),aA p i (k+1)=(aA p i k&&p (i+k))
 |0,i=>by simp[aA]
 |k+1,i=>by
  rw[aA,uf p k (i+1),aA]
  rw[show i+1+k=i+(k+1) by omega,Bool.and_assoc]
section
variable {ms:List Str} (hz:yu 1048576 ms)
include hz
theorem Lx (i:Nat) (hi:i<=ms.length) (nm:Str):∀k j,k+j=i->lim (apn 4 bu.d1) [.l (ms.map sE),.i (i:Nat),.s nm,.i (j:Nat)]=bif aA (fun k=>!sEq (gD (sAt ms k)) nm) j k then some (.brk 2 [.l (ms.map sE),.i (i:Nat),.s nm]) else some (.ret [.b false]):=by
 have hl:ms.length<big:=by have:=hz.1;simp only[big];omega
 refine dz (S:=fun j=>[.l (ms.map sE),.i (i:Nat),.s nm,.i (j:Nat)]) (fun j hj=>?_) ?_
 ·have hjl:j<ms.length:=by omega
  have hsz:(sAt ms j).size<=1048576:=by rw[eu hjl];exact hz.2 _ (Mq hjl)
  have hjI:(j:Int)<(i:Int):=by omega
  simp only[apL,jC,jD,bu.d1,C.I_i,C.L_l,jW,jY,getD_map' sE hjl,←eu hjl,w1 hjl hl]
  simp only[sE,jC,rn _ hsz,call3,jI,C.S_s,jD]
  cases hq:sEq (gD (sAt ms j)) nm<;>simp only[sEq] at hq<;>simp[hq,hj,hjl]
 ·simp[bu.d1]
theorem zm:bu [.l (ms.map sE)]=some [.b (sk ms)]:=by
 have hl:ms.length<big:=by have:=hz.1;simp only[big];omega
 have h:=dz (body:=apn 3 bu.d4) (S:=fun i=>[.l (ms.map sE),.s (bif i==0 then mkS [] else gD (sAt ms (i-1))),.i (i:Nat)]) (p:=oD ms) (n:=ms.length) (b:=0) (ys:=[]) (r:=[.b false])
  (fun i hi=>by
   have hsz:(sAt ms i).size<=1048576:=by rw[eu hi];exact hz.2 _ (Mq hi)
   have hd3:∀nm:Str,bu.d3 (.l (ms.map sE)) (.i (i:Nat)) (.s nm)=bif Ad ms nm i then some (.again [.l (ms.map sE),.s nm,.i (i+1:Nat)]) else some (.ret [.b false]):=fun nm=>by
    have:=Lx hz i (by omega) nm i 0 (by omega)
    simp only[Mr] at this
    simp only[bu.d3,this,Ad]
    cases aA (fun k=>!sEq (gD (sAt ms k)) nm) 0 i<;>simp[bu.d2,w1 hi hl]
   simp only[apL,jC,jD,bu.d4,C.I_i,C.L_l,jW,jY,getD_map' sE hi,←eu hi]
   simp only[sE,jC,rn _ hsz,call3,jI,C.S_s,jD,C.B_b,Nat.add_sub_cancel]
   rcases Nat.eq_zero_or_pos i with h0|h0
   ·subst h0
    cases hok:sy (sAt ms 0) with
    |false=>simp[hok,oD,hi]
    |true=>
     have:=hd3 (gD (sAt ms 0))
     simp only[Mr] at this
     simp[hok,oD,hi,this,Ad,aA]
   ·have hi1:i-1<ms.length:=by omega
    have hw:w64 ((i:Int)-1)=((i-1:Nat):Int):=by rw[aN (by omega) (by simp only[big] at hl;omega)];omega
    have e1:((i:Int)>0):=by omega
    have e2:(((i-1:Nat):Int)<(ms.length:Int)):=by omega
    have e3:((i:Int)<(ms.length:Int)):=by omega
    have e4:(i==0)=false:=by simp;omega
    have e5:(i+1==0)=false:=by simp
    simp only[hw,jY,getD_map' sE hi1,←eu hi1,e1,e2,e3,e4,e5,Mt,jR,jS,jX,sE,jC,C.S_s,oD,Nj]
    show (aZ (bif (!(!sy (sAt ms i))) then (bif (!(!sLt (sAt ms (i-1)) (sAt ms i))) then (bif sEq (gD (sAt ms i)) (gD (sAt ms (i-1))) then _ else _) else _) else _) _)=_
    cases hok:sy (sAt ms i) with
    |false=>simp
    |true=>
     cases hlt:sLt (sAt ms (i-1)) (sAt ms i) with
     |false=>simp
     |true=>
      cases hq:sEq (gD (sAt ms i)) (gD (sAt ms (i-1))) with
      |false=>simp[hd3]
      |true=>
       have:Ad ms (gD (sAt ms i)) i=false:=by
        cases hdu:Ad ms (gD (sAt ms i)) i with
        |false=>rfl
        |true=>
         have:=(cj _ _ _).1 hdu (i-1) (by omega) (by omega)
         simp only[MM] at this
         rw[(dc _ _).1 hq] at this
         have h2:=(dc (gD (sAt ms (i-1))) (gD (sAt ms (i-1)))).2 rfl
         rw[h2] at this;simp at this
       simp[this])
  (by simp[bu.d4]) ms.length 0 rfl
 simp only[Mr] at h
 have h:lim (apn 3 bu.d4) [.l (ms.map sE),.s (bs #[]),.i 0]=_:=h
 simp only[bu,bu.d6,apL,jC,C.L_l,jW,h,sk]
 by_cases h10:(ms.length:Int)>10
 ·have:¬ms.length<=10:=by omega
  simp[h10,this]
 ·have:ms.length<=10:=by omega
  simp only[h10,this,Mt,Mu,jS,Mx]
  cases aA (oD ms) 0 ms.length<;>simp[bu.d5]
def EP (ms:List Str):Nat->List (List C)
 |0=>[]
 |i+1=>l8 (gD (sAt ms i)) (.b true) (EP ms i)
omit hz in
theorem DH (nm:Str):∀i,(j7 (.b false) nm (EP ms i)).B=!Ad ms nm i
 |0=>rfl
 |i+1=>by
  have hd:Ad ms nm (i+1)=(Ad ms nm i&&!sEq (gD (sAt ms i)) nm):=by
   unfold Ad;rw[uf];simp
  rw[EP,oQ,hd,nq]
  have ih:=DH nm i
  cases h:sEq (gD (sAt ms i)) nm<;>simp[ih]
omit hz in
theorem rN (a b:Str):((Op.bytesLess b.toList a.toList)||(b.toList==a.toList))=!sLt a b:=by
 have:=Cl b a
 exact this
theorem J8 (name zone:Str) (room hold:Int) (shut:Bool):lim (apn 10 dS.d1) [.l (ms.map sE),.i (ms.length:Nat),.i 0,.s name,.s zone,.l (ms.map sE),.i room,.i hold,.b shut,.l []]=
  bif aA (oD ms) 0 ms.length then some (.brk 0 []) else some (.ret [.b false]):=by
 have h:=fun hl:ms.length<big=>dz (body:=apn 10 dS.d1) (S:=fun i=>[.l (ms.map sE),.i (ms.length:Nat),.i (i:Nat),.s name,.s zone,.l (ms.map sE),.i room,.i hold,.b shut,.l (EP ms i)]) (p:=oD ms) (n:=ms.length) (b:=0) (ys:=[]) (r:=[.b false])
  (fun i hi=>by
   have hsz:(sAt ms i).size<=1048576:=by rw[eu hi];exact hz.2 _ (Mq hi)
   have e3:((i:Int)<(ms.length:Int)):=by omega
   simp only[apL,jC,jD,dS.d1,C.I_i,C.L_l,jW,jY,getD_map' sE hi,←eu hi,w1 hi hl,e3,Mt,jR,jX]
   simp only[sE,jC,zD _ hsz,call3,jI,C.S_s,jD,C.B_b,DH,Bool.not_not,oD]
   cases hok:sy (sAt ms i) with
   |false=>simp
   |true=>
    cases hdu:Ad ms (gD (sAt ms i)) i with
    |false=>simp
    |true=>
     rcases Nat.eq_zero_or_pos i with h0|h0
     ·subst h0;simp[EP]
     ·have hi1:i-1<ms.length:=by omega
      have hw:w64 ((i:Int)-1)=((i-1:Nat):Int):=by rw[aN (by omega) (by simp only[big] at hl;omega)];omega
      have e1:((i:Int)>0):=by omega
      have e2:(((i-1:Nat):Int)<(ms.length:Int)):=by omega
      have e4:(i==0)=false:=by simp;omega
      simp only[hw,jY,getD_map' sE hi1,←eu hi1,e1,e2,e4,Mt,jR,jX,sE,jC,C.S_s,rN,Nj,jZ,ja,jS,Mx,Bool.and_true]
      cases sLt (sAt ms (i-1)) (sAt ms i)<;>simp[EP])
  (by simp[dS.d1]) ms.length 0 rfl
 have h:=h (by have:=hz.1;simp only[big];omega)
 simpa [EP] using h
end
def dR (b:Bt):Bool:=bf b.name&&(bf b.zone&&(sk b.marks&&(within b.room 0 1000&&within b.hold 0 1000)))
theorem zv (b:Bt) (hz:b.Sz 1048576):iP b.e=some [.b (dR b)]:=by
 simp only[iP,iP.d1,Bt.e,apL,jC,jD,cL _ hz.1,cL _ hz.2.1,zm hz.2.2,fU,ad,jI,C.B_b,dR]
 cases bf b.name<;>cases bf b.zone<;>cases sk b.marks<;>cases within b.room 0 1000<;>simp
theorem Aj (b:Bt) (hz:b.Sz 1048576):dS b.e=some [.b (dR b)]:=by
 have hm:=J8 (ms:=b.marks) hz.2.2 b.name b.zone b.room b.hold b.shut
 simp only[dS,dS.d3,Bt.e,apL,jC,jD,gx _ hz.1,gx _ hz.2.1,n9,ad,jI,C.B_b,C.L_l,jW,af,hm,dR,sk]
 by_cases h10:(b.marks.length:Int)>10
 ·have:¬b.marks.length<=10:=by omega
  simp only[h10,this,Mt,Mu]
  cases bf b.name<;>cases bf b.zone<;>simp
 ·have:b.marks.length<=10:=by omega
  simp only[h10,this,Mt,Mu]
  cases bf b.name<;>cases bf b.zone<;>cases within b.room 0 1000<;>cases within b.hold 0 1000<;>cases aA (oD b.marks) 0 b.marks.length<;>simp[dS.d2]
end Go.Ev
namespace Go.Ev
def nR (s:Str):Bool:=(pp s).code==0
def jM (x:Lk):Bool:=nR x.sel&&within x.w (-9) 9
def Cs (s:Str):Bool:=sEq s (mkS [])||bf s
def kA (c:Cp):Bool:=
 bf c.name&&(within c.rank 0 100&&(within c.born 0 1000000&&(within c.room 0 1000&&(within c.hold 0 1000&&(decide (c.likes.length<=5)&&(within c.apart 0 2&&(Cs c.near&&(Cs c.fixed&&(nR c.sel&&c.likes.all jM)))))))))
theorem qt (s:Str) (hl:s.size<=1048576):ga [.s s]=some [.b (nR s)]:=by
 simp only[ga,ga.d1,apL,jC,qg s hl,call2,jI,jD,C.I_i,jV,nR]
 have:(((pp s).code:Int)==0)=((pp s).code==0):=by
  rw[Bool.eq_iff_iff,MY,MY];omega
 rw[this]
def uW (l:List Lk) (i:Nat):Bool:=match l[i]? with|some x=>jM x|none=>true
theorem AX (l:List Lk):aA (uW l) 0 l.length=l.all jM:=by
 rw[Bool.eq_iff_iff,cj,Ni]
 constructor
 ·intro h x hx
  obtain ⟨i,hi,rfl⟩:=List.getElem_of_mem hx
  have:=h i (Nat.zero_le _) (by omega)
  simpa [uW,hi] using this
 ·intro h i _ hi
  have hi:i<l.length:=by omega
  simpa [uW,hi] using h _ (Mq hi)
theorem Jb (c:Cp) (hz:c.Sz 1048576) (K:List C->R):ah 0 (lim (apn 13 cf.d1) ([.i 0]++c.e)) K=bif c.likes.all jM then K [] else some (.ret [.b false]):=by
 have hl:c.likes.length<big:=by have:=hz.2.2.2.2.2.2.1;simp only[big];omega
 have h:=dz (body:=apn 13 cf.d1) (S:=fun i=>[.i (i:Nat)]++c.e) (p:=uW c.likes) (n:=c.likes.length) (b:=0) (ys:=[]) (r:=[.b false])
  (fun i hi=>by
   have hsz:=hz.2.2.2.2.2.2.2 _ (Mq hi)
   have e3:((i:Int)<(c.likes.length:Int)):=by omega
   have hp:uW c.likes i=jM c.likes[i]:=by simp[uW,hi]
   simp only[Cp.e,jA,jB,apL,jC,jD,cf.d1,C.I_i,C.L_l,jW,jY,getD_map' Lk.e hi,w1 hi hl,e3,Mt,jR,jX,hp,jM]
   simp only[Lk.e,jC,jD,qt _ hsz,fU,ad,jI,C.B_b]
   cases nR c.likes[i].sel<;>cases within c.likes[i].w (-9) 9<;>simp)
  (by simp[cf.d1,Cp.e]) c.likes.length 0 rfl
 simp only[Mr] at h
 rw[h,AX]
 cases c.likes.all jM<;>simp
theorem As (c:Cp) (hz:c.Sz 1048576):cf c.e=some [.b (bf c.svc&&kA c)]:=by
 obtain ⟨z1,z2,z3,z4,z5,z6,z7,z8⟩:=hz
 have hlp:=Jb c ⟨z1,z2,z3,z4,z5,z6,z7,z8⟩ (fun xs=>cf.d2)
 simp only[Cp.e,jA,jB] at hlp
 have q1:(c.near.toList==(bs #[]).toList)=sEq c.near (mkS []):=rfl
 have q2:(c.fixed.toList==(bs #[]).toList)=sEq c.fixed (mkS []):=rfl
 simp only[cf,cf.d4,Cp.e,apL,jC,jD,cL _ z1,cL _ z2,cL _ z4,cL _ z5,fU,qt _ z3,ad,jI,C.B_b,C.L_l,C.S_s,jW,kA,Cs,q1,q2]
 have e5:decide ((c.likes.length:Int)>5)=!decide (c.likes.length<=5):=by
  by_cases h:c.likes.length<=5
  ·have:¬((c.likes.length:Int)>5):=by omega
   simp[h,this]
  ·have:((c.likes.length:Int)>5):=by omega
   simp[h,this]
 rw[e5]
 cases bf c.name with
 |false=>simp
 |true=>
 cases bf c.svc with
 |false=>simp
 |true=>
 cases within c.rank 0 100 with
 |false=>simp
 |true=>
 cases within c.born 0 1000000 with
 |false=>simp
 |true=>
 cases within c.room 0 1000 with
 |false=>simp
 |true=>
 cases within c.hold 0 1000 with
 |false=>simp
 |true=>
 simp only[jZ,ja,jR,jS,Mx]
 cases nR c.sel with
 |false=>simp[cf.d3]
 |true=>
 cases decide (c.likes.length<=5) with
 |false=>simp[cf.d3]
 |true=>
 cases within c.apart 0 2 with
 |false=>simp[cf.d3]
 |true=>
 simp only[jZ,ja,jR,jS,Mx]
 cases sEq c.near (mkS [])<;>cases bf c.near<;>cases sEq c.fixed (mkS [])<;>cases bf c.fixed<;>simp[cf.d3,hlp]<;>cases c.likes.all jM<;>simp[cf.d2]
theorem JU (l:List Lk) (hz:l.length<=1048576/\∀x,x∈l->x.sel.size<=1048576) (K:List C->R):ah 0 (lim (apn 3 dg.d1) [.l (l.map Lk.e),.i (l.length:Nat),.i 0]) K=bif l.all jM then K [] else some (.ret [.b false]):=by
 have hl:l.length<big:=by have:=hz.1;simp only[big];omega
 have h:=dz (body:=apn 3 dg.d1) (S:=fun i=>[.l (l.map Lk.e),.i (l.length:Nat),.i (i:Nat)]) (p:=uW l) (n:=l.length) (b:=0) (ys:=[]) (r:=[.b false])
  (fun i hi=>by
   have hsz:=hz.2 _ (Mq hi)
   have e3:((i:Int)<(l.length:Int)):=by omega
   have hp:uW l i=jM l[i]:=by simp[uW,hi]
   have hc:(((pp l[i].sel).code:Int) !=0)=!nR l[i].sel:=by
    unfold nR bne
    congr 1
    rw[Bool.eq_iff_iff,MY,MY];omega
   simp only[apL,jC,jD,dg.d1,C.I_i,C.L_l,jW,jY,getD_map' Lk.e hi,w1 hi hl,e3,Mt,jR,jX,hp,jM]
   simp only[Lk.e,jC,jD,qH _ hsz,n9,ad,call2,jI,C.B_b,C.I_i,hc]
   cases nR l[i].sel<;>cases within l[i].w (-9) 9<;>simp)
  (by simp[dg.d1]) l.length 0 rfl
 simp only[Mr] at h
 rw[h,AX]
 cases l.all jM<;>simp
theorem Cg (c:Cp) (hz:c.Sz 1048576):dg c.e=some [.b (kA c)]:=by
 obtain ⟨z1,z2,z3,z4,z5,z6,z7⟩:=hz
 have hlp:=JU c.likes z7 (fun xs=>dg.d2)
 have q1:(c.near.toList==(bs #[]).toList)=sEq c.near (mkS []):=rfl
 have q2:(c.fixed.toList==(bs #[]).toList)=sEq c.fixed (mkS []):=rfl
 have hc:(((pp c.sel).code:Int) !=0)=!nR c.sel:=by
  unfold nR bne
  congr 1
  rw[Bool.eq_iff_iff,MY,MY];omega
 simp only[dg,dg.d4,Cp.e,apL,jC,jD,gx _ z1,gx _ z4,gx _ z5,n9,ad,jI,C.B_b,C.L_l,C.S_s,jW,kA,Cs,q1,q2]
 have e5:decide ((c.likes.length:Int)>5)=!decide (c.likes.length<=5):=by
  by_cases h:c.likes.length<=5
  ·have:¬((c.likes.length:Int)>5):=by omega
   simp[h,this]
  ·have:((c.likes.length:Int)>5):=by omega
   simp[h,this]
 rw[e5]
 have hd3:∀b:Bool,dg.d3 (.b b) (.s c.name) (.s c.svc) (.i c.rank) (.i c.born) (.i c.room) (.i c.hold) (.s c.sel) (.l (c.likes.map Lk.e)) (.i c.apart) (.s c.near) (.s c.fixed) (.s c.at_)=bif b then some (.ret [.b false]) else bif nR c.sel&&c.likes.all jM then some (.ret [.b true]) else some (.ret [.b false]):=fun b=>by
  simp only[dg.d3,C.B_b,qH _ z3,call2,jI,jC,jD,C.I_i,hc,C.L_l,jW,hlp]
  cases b<;>cases nR c.sel<;>cases c.likes.all jM<;>simp[dg.d2]
 cases bf c.name with
 |false=>simp[hd3]
 |true=>
 cases within c.rank 0 100 with
 |false=>simp[hd3]
 |true=>
 cases within c.born 0 1000000 with
 |false=>simp[hd3]
 |true=>
 cases within c.room 0 1000 with
 |false=>simp[hd3]
 |true=>
 cases within c.hold 0 1000 with
 |false=>simp[hd3]
 |true=>
 simp only[jZ,ja,jR,jS,Mx]
 cases decide (c.likes.length<=5) with
 |false=>simp[hd3]
 |true=>
 cases within c.apart 0 2 with
 |false=>simp[hd3]
 |true=>
 simp only[jZ,ja,jR,jS,Mx]
 cases sEq c.near (mkS [])<;>cases bf c.near<;>cases sEq c.fixed (mkS [])<;>cases bf c.fixed<;>simp[hd3]<;>cases nR c.sel&&c.likes.all jM<;>simp
def mM (l:List Cp) (nm:Str):Nat->Int
 |0=>0
 |i+1=>match l[i]? with
  |some c=>bif sEq c.at_ nm then w64 (mM l nm i+c.room) else mM l nm i
  |none=>mM l nm i
def mL (l:List Cp) (nm:Str):Nat->Int
 |0=>0
 |i+1=>match l[i]? with
  |some c=>bif sEq c.at_ nm then w64 (mL l nm i+c.hold) else mL l nm i
  |none=>mL l nm i
def used (f:Fl) (nm:Str):Int×Int:=bif sEq nm (mkS [])||decide (bIx f nm<0) then (0,0) else (mM f.cps nm f.cps.length,mL f.cps nm f.cps.length)
theorem yq (f:Fl) (nm:Str) (hz:f.Sz 1048576):bO (f.e++[.s nm])=some [.i (used f nm).1,.i (used f nm).2]:=by
 have hl:f.cps.length<big:=by have:=hz.2.2.1;simp only[big];omega
 have hb:=ko f nm hz.1.1
 have q1:(nm.toList==(bs #[]).toList)=sEq nm (mkS []):=rfl
 simp only[Fl.e,jA,jB] at hb
 simp only[bO,bO.d4,Fl.e,jA,jB,apL,jC,jD,hb,ad,jI,C.I_i,used]
 cases hlt:decide (bIx f nm<0) with
 |true=>simp
 |false=>
  simp only[jS,Bool.or_false]
  cases he:sEq nm (mkS []) with
  |true=>
   have h:=bQ (body:=apn 8 bO.d2) (S:=fun i=>[.s nm,.i 0,.i 0,.i (i:Nat),.b f.pack,.l (f.bts.map Bt.e),.l (f.svs.map Sv.e),.l (f.cps.map Cp.e)]) (n:=f.cps.length) (b:=0) (ys:=[.i 0,.i 0])
    (fun i hi=>by
     have e3:((i:Int)<(f.cps.length:Int)):=by omega
     simp only[apL,jC,jD,bO.d2,bO.d1,C.I_i,C.L_l,C.S_s,jW,q1,he,e3,Mt,jR,jZ,jS,jJ,C.B_b,w1 hi hl])
    (by simp[bO.d2]) f.cps.length 0 rfl
   simp only[Mr] at h
   rw[h]
   simp[bO.d3]
  |false=>
   have h:=bQ (body:=apn 8 bO.d2) (S:=fun i=>[.s nm,.i (mM f.cps nm i),.i (mL f.cps nm i),.i (i:Nat),.b f.pack,.l (f.bts.map Bt.e),.l (f.svs.map Sv.e),.l (f.cps.map Cp.e)]) (n:=f.cps.length) (b:=0) (ys:=[.i (mM f.cps nm f.cps.length),.i (mL f.cps nm f.cps.length)])
    (fun i hi=>by
     have e3:((i:Int)<(f.cps.length:Int)):=by omega
     simp only[apL,jC,jD,bO.d2,bO.d1,C.I_i,C.L_l,C.S_s,jW,jY,getD_map' Cp.e hi,q1,he,e3,Mt,jR,ja,jX,jJ,C.B_b,w1 hi hl,mM,mL,Mg hi]
     simp only[Cp.e,jC,jD,C.S_s,C.I_i]
     show (bif sEq f.cps[i].at_ nm then _ else _)=_
     cases sEq f.cps[i].at_ nm<;>simp)
    (by simp[bO.d2]) f.cps.length 0 rfl
   simp only[Mr,mM,mL] at h
   rw[h]
   simp[bO.d3]
theorem yK (f:Fl) (nm:Str) (hz:f.Sz 1048576):dF (f.e++[.s nm])=some [.i (used f nm).1,.i (used f nm).2]:=by
 have hl:f.cps.length<big:=by have:=hz.2.2.1;simp only[big];omega
 have hb:=jj f nm hz.1.1
 have q1:(nm.toList==(bs #[]).toList)=sEq nm (mkS []):=rfl
 simp only[Fl.e,jA,jB] at hb
 simp only[dF,dF.d3,Fl.e,jA,jB,apL,jC,jD,C.S_s,q1,hb,ad,jI,C.I_i,C.L_l,jW,used]
 cases he:sEq nm (mkS []) with
 |true=>simp
 |false=>
  simp only[ja,jR,Nj]
  cases hlt:decide (bIx f nm<0) with
  |true=>simp
  |false=>
   have h:=bQ (body:=apn 6 dF.d1) (S:=fun i=>[.s nm,.i (mM f.cps nm i),.i (mL f.cps nm i),.l (f.cps.map Cp.e),.i (f.cps.length:Nat),.i (i:Nat)]) (n:=f.cps.length) (b:=0) (ys:=[.i (mM f.cps nm f.cps.length),.i (mL f.cps nm f.cps.length)])
    (fun i hi=>by
     have e3:((i:Int)<(f.cps.length:Int)):=by omega
     simp only[apL,jC,jD,dF.d1,C.I_i,C.L_l,C.S_s,jW,jY,getD_map' Cp.e hi,e3,Mt,jR,jX,w1 hi hl,mM,mL,Mg hi]
     simp only[Cp.e,jC,jD,C.S_s,C.I_i]
     show (bif sEq f.cps[i].at_ nm then _ else _)=_
     cases sEq f.cps[i].at_ nm<;>simp)
    (by simp[dF.d1]) f.cps.length 0 rfl
   simp only[Mr,mM,mL] at h
   rw[h]
   simp[dF.d2]
end Go.Ev
namespace Go.Ev
theorem nj {α:Type} (p:α->Bool):∀(l:List α) (n:Nat),decide (ew p l n<0)=!l.any p
 |[],n=>by simp[ew]
 |x::r,n=>by
  cases hx:p x with
  |true=>
   have:¬((n:Int)<0):=by omega
   simp[ew,hx,this]
  |false=>simp[ew,hx,nj p r (n+1)]
def eR (l:List Cp) (nm:Str):Nat->Nat
 |0=>0
 |i+1=>match l[i]? with
  |some c=>bif sEq c.at_ nm then eR l nm i+1 else eR l nm i
  |none=>eR l nm i
theorem wb (l:List Cp) (nm:Str):∀i,eR l nm i<=i
 |0=>Mp _
 |i+1=>by
  have:=wb l nm i
  simp only[eR]
  split
  ·rename_i c _
   cases sEq c.at_ nm<;>simp<;>omega
  ·omega
theorem BB (f:Fl) (nm:Str) (hz:f.Sz 1048576):eF (f.e++[.s nm])=some [.i (eR f.cps nm f.cps.length:Nat)]:=by
 have hl:f.cps.length<big:=by have:=hz.2.2.1;simp only[big];omega
 have h:=bQ (body:=apn 7 eF.d1) (S:=fun i=>[.s nm,.i (eR f.cps nm i:Nat),.i (i:Nat),.b f.pack,.l (f.bts.map Bt.e),.l (f.svs.map Sv.e),.l (f.cps.map Cp.e)]) (n:=f.cps.length) (b:=0) (ys:=[.i (eR f.cps nm f.cps.length:Nat)])
  (fun i hi=>by
   have e3:((i:Int)<(f.cps.length:Int)):=by omega
   have hw:=ua (n:=eR f.cps nm i) (by have:=wb f.cps nm i;omega)
   simp only[apL,jC,jD,eF.d1,C.I_i,C.L_l,C.S_s,jW,jY,getD_map' Cp.e hi,e3,Mt,jR,jX,w1 hi hl,hw,eR,Mg hi]
   simp only[Cp.e,jC,jD,C.S_s]
   show (bif sEq f.cps[i].at_ nm then _ else _)=_
   cases sEq f.cps[i].at_ nm<;>simp)
  (by simp[eF.d1]) f.cps.length 0 rfl
 simp only[Mr,eR] at h
 simp only[eF,eF.d3,Fl.e,jA,jB,apL,jC,jD]
 rw[h]
 simp[eF.d2]
def svA (f:Fl) (i:Nat):Bool:=match f.svs[i]? with
 |some s=>bf s.name&&((i==0||match f.svs[i-1]? with|some q=>sLt q.name s.name|none=>true)&&within s.spare 0 60)
 |none=>true
def cpA (f:Fl) (i:Nat):Bool:=match f.cps[i]? with
 |some c=>kA c&&(f.svs.any (fun s=>sEq s.name c.svc)&&((i==0||match f.cps[i-1]? with|some q=>sLt q.name c.name|none=>true)&&(sEq c.at_ (mkS [])||f.bts.any (fun b=>sEq b.name c.at_))))
 |none=>true
def btA (f:Fl) (i:Nat):Bool:=match f.bts[i]? with
 |some b=>dR b&&(i==0||match f.bts[i-1]? with|some q=>sLt q.name b.name|none=>true)
 |none=>true
def tq (f:Fl) (i:Nat):Bool:=match f.bts[i]? with
 |some b=>decide ((used f b.name).1<=b.room)&&(decide ((used f b.name).2<=b.hold)&&decide (eR f.cps b.name f.cps.length<=10))
 |none=>true
def bl (f:Fl):Bool:=decide (f.bts.length<=12)&&(decide (f.svs.length<=30)&&(decide (f.cps.length<=60)&&(aA (svA f) 0 f.svs.length&&(aA (cpA f) 0 f.cps.length&&(aA (btA f) 0 f.bts.length&&aA (tq f) 0 f.bts.length)))))
section
variable {f:Fl} (hz:f.Sz 1048576)
include hz
theorem Ma (K:List C->R):ah 0 (lim (apn 5 ax.d1) ([.i 0]++f.e)) K=bif aA (svA f) 0 f.svs.length then K f.e else some (.ret [.b false]):=by
 have hl:f.svs.length<big:=by have:=hz.2.1.1;simp only[big];omega
 have h:=dz (body:=apn 5 ax.d1) (S:=fun i=>[.i (i:Nat)]++f.e) (p:=svA f) (n:=f.svs.length) (b:=0) (ys:=f.e) (r:=[.b false])
  (fun i hi=>by
   have hsz:=hz.2.1.2 _ (Mq hi)
   have e3:((i:Int)<(f.svs.length:Int)):=by omega
   have hp:svA f i=(bf f.svs[i].name&&((i==0||match f.svs[i-1]? with|some q=>sLt q.name f.svs[i].name|none=>true)&&within f.svs[i].spare 0 60)):=by simp[svA,hi]
   simp only[Fl.e,jA,jB,apL,jC,jD,ax.d1,C.I_i,C.L_l,jW,jY,getD_map' Sv.e hi,w1 hi hl,e3,Mt,jR,jX,hp]
   simp only[Sv.e,jC,jD,cL _ hsz,fU,ad,jI,C.B_b,C.S_s]
   cases hn:bf f.svs[i].name with
   |false=>simp
   |true=>
    rcases Nat.eq_zero_or_pos i with h0|h0
    ·subst h0
     cases within f.svs[0].spare 0 60<;>simp
    ·have hi1:i-1<f.svs.length:=by omega
     have hw:w64 ((i:Int)-1)=((i-1:Nat):Int):=by rw[aN (by omega) (by simp only[big] at hl;omega)];omega
     have e1:((i:Int)>0):=by omega
     have e2:(((i-1:Nat):Int)<(f.svs.length:Int)):=by omega
     have e4:(i==0)=false:=by simp;omega
     simp only[hw,jY,getD_map' Sv.e hi1,e1,e2,e4,Mt,jR,jX,Mg hi1,Nj,jZ,ja,Mx]
     simp only[Sv.e,jC,C.S_s]
     show (bif (!(!sLt f.svs[i-1].name f.svs[i].name)) then _ else _)=_
     cases sLt f.svs[i-1].name f.svs[i].name<;>cases within f.svs[i].spare 0 60<;>simp)
  (by simp[ax.d1,Fl.e]) f.svs.length 0 rfl
 simp only[Mr] at h
 rw[h]
 cases aA (svA f) 0 f.svs.length<;>simp
theorem L9 (hn:∀s,s∈f.svs->bf s.name=true) (K:List C->R):ah 2 (lim (apn 5 ax.d3) ([.i 0]++f.e)) K=bif aA (cpA f) 0 f.cps.length then K f.e else some (.ret [.b false]):=by
 have hl:f.cps.length<big:=by have:=hz.2.2.1;simp only[big];omega
 have h:=dz (body:=apn 5 ax.d3) (S:=fun i=>[.i (i:Nat)]++f.e) (p:=cpA f) (n:=f.cps.length) (b:=2) (ys:=f.e) (r:=[.b false])
  (fun i hi=>by
   have hsz:=hz.2.2.2 _ (Mq hi)
   have e3:((i:Int)<(f.cps.length:Int)):=by omega
   have hp:cpA f i=(kA f.cps[i]&&(f.svs.any (fun s=>sEq s.name f.cps[i].svc)&&((i==0||match f.cps[i-1]? with|some q=>sLt q.name f.cps[i].name|none=>true)&&(sEq f.cps[i].at_ (mkS [])||f.bts.any (fun b=>sEq b.name f.cps[i].at_))))):=by simp[cpA,hi]
   have hsv:=yy f f.cps[i].svc hz.2.1.1
   have hbt:=ko f f.cps[i].at_ hz.1.1
   have hco:=As f.cps[i] hsz
   have q1:(f.cps[i].at_.toList==(bs #[]).toList)=sEq f.cps[i].at_ (mkS []):=rfl
   have hs1:decide (sIx f f.cps[i].svc<0)=!f.svs.any (fun s=>sEq s.name f.cps[i].svc):=nj _ _ _
   have hb1:decide (bIx f f.cps[i].at_<0)=!f.bts.any (fun b=>sEq b.name f.cps[i].at_):=nj _ _ _
   have hany:f.svs.any (fun s=>sEq s.name f.cps[i].svc)=true->bf f.cps[i].svc=true:=fun h=>by
    obtain ⟨s,h1,h2⟩:=Nh.1 h
    rw[←(dc _ _).1 h2];exact hn s h1
   simp only[Fl.e,jA,jB] at hsv hbt
   simp only[Cp.e] at hco
   simp only[Fl.e,jA,jB,apL,jC,jD,ax.d3,C.I_i,C.L_l,jW,jY,getD_map' Cp.e hi,e3,Mt,jR,jX,hp]
   simp only[Cp.e,jC,jD,hco,hsv,hbt,ad,jI,C.B_b,C.S_s,C.I_i,q1,hs1,hb1]
   have hd2:∀b:Bool,ax.d2 (.i (i:Nat)) (.b b) (.b f.pack) (.l (f.bts.map Bt.e)) (.l (f.svs.map Sv.e)) (.l (f.cps.map Cp.e))=bif b then some (.ret [.b false]) else some (.again [.i (i+1:Nat),.b f.pack,.l (f.bts.map Bt.e),.l (f.svs.map Sv.e),.l (f.cps.map Cp.e)]):=fun b=>by
    simp only[ax.d2,C.B_b,C.I_i,w1 hi hl]
   cases hany2:f.svs.any (fun s=>sEq s.name f.cps[i].svc) with
   |false=>
    have:∀a b:Bool,(a&&(false&&b))=false:=by decide
    rw[this]
    cases bf f.cps[i].svc&&kA f.cps[i] with
    |false=>simp[hd2]
    |true=>
     rcases Nat.eq_zero_or_pos i with h0|h0
     ·subst h0
      simp only[Mr] at hd2
      simp[hd2]
     ·have hi1:i-1<f.cps.length:=by omega
      have hw:w64 ((i:Int)-1)=((i-1:Nat):Int):=by rw[aN (by omega) (by simp only[big] at hl;omega)];omega
      have e1:((i:Int)>0):=by omega
      have e2:(((i-1:Nat):Int)<(f.cps.length:Int)):=by omega
      simp only[hw,jY,getD_map' Cp.e hi1,e1,e2,Mt,jR,jX,jZ,ja,jS]
      cases (Op.bytesLess ((f.cps[i-1].e.getD 0 .nil).S).toList (f.cps[i].name).toList)<;>simp[hd2]
   |true=>
    rw[hany hany2,Mx,Mx]
    cases kA f.cps[i] with
    |false=>simp[hd2]
    |true=>
     rcases Nat.eq_zero_or_pos i with h0|h0
     ·subst h0
      simp only[Mr] at hd2
      cases sEq f.cps[0].at_ (mkS [])<;>cases f.bts.any (fun b=>sEq b.name f.cps[0].at_)<;>simp[hd2]
     ·have hi1:i-1<f.cps.length:=by omega
      have hw:w64 ((i:Int)-1)=((i-1:Nat):Int):=by rw[aN (by omega) (by simp only[big] at hl;omega)];omega
      have e1:((i:Int)>0):=by omega
      have e2:(((i-1:Nat):Int)<(f.cps.length:Int)):=by omega
      have e4:(i==0)=false:=by simp;omega
      simp only[hw,jY,getD_map' Cp.e hi1,e1,e2,e4,Mt,jR,jX,Mg hi1,Nj,jZ,ja,jS,Mx]
      have hn0:(f.cps[i-1].e.getD 0 .nil).S=f.cps[i-1].name:=rfl
      rw[hn0]
      show aZ (bif (!(!sLt f.cps[i-1].name f.cps[i].name)) then _ else _) _=_
      cases sLt f.cps[i-1].name f.cps[i].name<;>cases sEq f.cps[i].at_ (mkS [])<;>cases f.bts.any (fun b=>sEq b.name f.cps[i].at_)<;>simp[hd2])
  (by simp[ax.d3,Fl.e]) f.cps.length 0 rfl
 simp only[Mr] at h
 rw[h]
 cases aA (cpA f) 0 f.cps.length<;>simp
theorem LW (K:List C->R):ah 4 (lim (apn 5 ax.d4) ([.i 0]++f.e)) K=bif aA (fun i=>btA f i&&tq f i) 0 f.bts.length then K [] else some (.ret [.b false]):=by
 have hl:f.bts.length<big:=by have:=hz.1.1;simp only[big];omega
 have h:=dz (body:=apn 5 ax.d4) (S:=fun i=>[.i (i:Nat)]++f.e) (p:=fun i=>btA f i&&tq f i) (n:=f.bts.length) (b:=4) (ys:=[]) (r:=[.b false])
  (fun i hi=>by
   have hsz:=hz.1.2 _ (Mq hi)
   have e3:((i:Int)<(f.bts.length:Int)):=by omega
   have hp:btA f i=(dR f.bts[i]&&(i==0||match f.bts[i-1]? with|some q=>sLt q.name f.bts[i].name|none=>true)):=by simp[btA,hi]
   have hq:tq f i=(decide ((used f f.bts[i].name).1<=f.bts[i].room)&&(decide ((used f f.bts[i].name).2<=f.bts[i].hold)&&decide (eR f.cps f.bts[i].name f.cps.length<=10))):=by simp[tq,hi]
   have hu:=yq f f.bts[i].name hz
   have hs:=BB f f.bts[i].name hz
   have hb:=zv f.bts[i] hsz
   have g1:decide ((used f f.bts[i].name).1>f.bts[i].room)=!decide ((used f f.bts[i].name).1<=f.bts[i].room):=by rw[←decide_not,decide_eq_decide];omega
   have g2:decide ((used f f.bts[i].name).2>f.bts[i].hold)=!decide ((used f f.bts[i].name).2<=f.bts[i].hold):=by rw[←decide_not,decide_eq_decide];omega
   have g3:decide ((eR f.cps f.bts[i].name f.cps.length:Int)>10)=!decide (eR f.cps f.bts[i].name f.cps.length<=10):=by rw[←decide_not,decide_eq_decide];omega
   simp only[Fl.e,jA,jB] at hu hs
   simp only[Bt.e] at hb
   simp only[Fl.e,jA,jB,apL,jC,jD,ax.d4,C.I_i,C.L_l,jW,jY,getD_map' Bt.e hi,e3,Mt,jR,jX,w1 hi hl]
   simp only[Bt.e,jC,jD,hu,hs,hb,ad,call2,jI,C.B_b,C.S_s,C.I_i,g1,g2,g3,hp,hq,Bool.not_not]
   cases dR f.bts[i] with
   |false=>simp
   |true=>
    rcases Nat.eq_zero_or_pos i with h0|h0
    ·subst h0
     cases decide ((used f f.bts[0].name).1<=f.bts[0].room)<;>cases decide ((used f f.bts[0].name).2<=f.bts[0].hold)<;>cases decide (eR f.cps f.bts[0].name f.cps.length<=10)<;>simp
    ·have hi1:i-1<f.bts.length:=by omega
     have hw:w64 ((i:Int)-1)=((i-1:Nat):Int):=by rw[aN (by omega) (by simp only[big] at hl;omega)];omega
     have e1:((i:Int)>0):=by omega
     have e2:(((i-1:Nat):Int)<(f.bts.length:Int)):=by omega
     have e4:(i==0)=false:=by simp;omega
     simp only[hw,jY,getD_map' Bt.e hi1,e1,e2,e4,Mt,jR,jX,Mg hi1,Nj,jZ,ja,jS,Mx]
     have hn0:(f.bts[i-1].e.getD 0 .nil).S=f.bts[i-1].name:=rfl
     rw[hn0]
     show (bif sLt f.bts[i-1].name f.bts[i].name then _ else _)=_
     cases sLt f.bts[i-1].name f.bts[i].name<;>cases decide ((used f f.bts[i].name).1<=f.bts[i].room)<;>cases decide ((used f f.bts[i].name).2<=f.bts[i].hold)<;>cases decide (eR f.cps f.bts[i].name f.cps.length<=10)<;>simp)
  (by simp[ax.d4,Fl.e]) f.bts.length 0 rfl
 simp only[Mr] at h
 rw[h]
 cases aA (fun i=>btA f i&&tq f i) 0 f.bts.length<;>simp
omit hz in
theorem Gq (h:aA (svA f) 0 f.svs.length=true):∀s,s∈f.svs->bf s.name=true:=by
 intro s hs
 obtain ⟨i,hi,rfl⟩:=List.getElem_of_mem hs
 have:=(cj _ _ _).1 h i (Nat.zero_le _) (by omega)
 simp only[svA,Mg hi,Mk] at this
 exact this.1
omit hz in
theorem wR (p q:Nat->Bool):∀k i,aA (fun i=>p i&&q i) i k=(aA p i k&&aA q i k)
 |0,i=>rfl
 |k+1,i=>by
  simp only[aA,wR p q k (i+1)]
  cases p i<;>cases q i<;>cases aA p (i+1) k<;>simp
theorem fq:ax f.e=some [.b (bl f)]:=by
 have h1:=Ma hz (apn 4 ax.d7)
 have h3:=LW hz (fun xs=>ax.d5)
 simp only[Fl.e,jA,jB] at h1 h3
 have g1:decide ((f.bts.length:Int)>12)=!decide (f.bts.length<=12):=by rw[←decide_not,decide_eq_decide];omega
 have g2:decide ((f.svs.length:Int)>30)=!decide (f.svs.length<=30):=by rw[←decide_not,decide_eq_decide];omega
 have g3:decide ((f.cps.length:Int)>60)=!decide (f.cps.length<=60):=by rw[←decide_not,decide_eq_decide];omega
 simp only[ax,ax.d8,Fl.e,apL,jC,jD,C.L_l,jW,g1,g2,g3,Bool.not_not,h1,bl]
 cases decide (f.bts.length<=12) with
 |false=>simp
 |true=>
 cases decide (f.svs.length<=30) with
 |false=>simp
 |true=>
 cases decide (f.cps.length<=60) with
 |false=>simp
 |true=>
 cases hs:aA (svA f) 0 f.svs.length with
 |false=>simp
 |true=>
  have h2:=L9 hz (Gq hs) (apn 4 ax.d6)
  simp only[Fl.e,jA,jB] at h2
  simp only[jR,jZ,jS,Mx,ax.d7,apL,jC,jD,h2]
  cases aA (cpA f) 0 f.cps.length with
  |false=>simp
  |true=>
   simp only[jR,Mx,ax.d6,apL,jC,jD,h3,wR]
   cases aA (btA f) 0 f.bts.length<;>cases aA (tq f) 0 f.bts.length<;>simp[ax.d5]
end
end Go.Ev
namespace Go.Ev
def wE (l:List Sv):Nat->List (List C)
 |0=>[]
 |i+1=>match l[i]? with
  |some s=>l8 s.name (.b true) (wE l i)
  |none=>wE l i
theorem CQ (l:List Sv) (nm:Str):∀i,i<=l.length->(j7 (.b false) nm (wE l i)).B=(l.take i).any (fun s=>sEq s.name nm)
 |0,_=>rfl
 |i+1,h=>by
  have hi:i<l.length:=h
  rw[wE,Mg hi]
  simp only
  rw[oQ,MN hi,List.any_append,nq]
  have ih:=CQ l nm i (by omega)
  cases hq:sEq l[i].name nm with
  |true=>simp[hq]
  |false=>simp[hq,ih]
def um (l:List Cp):Nat->List (List C)
 |0=>[]
 |i+1=>match l[i]? with
  |some c=>l8 c.at_ (.i (w64 ((j7 (.i 0) c.at_ (um l i)).I+1))) (um l i)
  |none=>um l i
theorem zj (l:List Cp) (hl:l.length<big) (nm:Str):∀i,i<=l.length->j7 (.i 0) nm (um l i)=.i (eR l nm i:Nat)
 |0,_=>rfl
 |i+1,h=>by
  have hi:i<l.length:=h
  have ih:=zj l hl nm i (by omega)
  have ih2:=zj l hl l[i].at_ i (by omega)
  rw[um,eR,Mg hi]
  simp only
  rw[oQ,ih,ih2,nq]
  have hw:=ua (n:=eR l l[i].at_ i) (by have:=wb l l[i].at_ i;omega)
  cases hq:sEq l[i].at_ nm with
  |true=>
   have:=(dc _ _).1 hq
   subst this
   simp only[jR,C.I_i,hw]
  |false=>rfl
section
variable {f:Fl} (hz:f.Sz 1048576)
include hz
theorem L4 (K:List C->R):ah 0 (lim (apn 7 au.d1) ([.l (f.bts.map Bt.e),.i (f.bts.length:Nat),.i 0]++f.e)) K=bif aA (btA f) 0 f.bts.length then K f.e else some (.ret [.b false]):=by
 have hl:f.bts.length<big:=by have:=hz.1.1;simp only[big];omega
 have h:=dz (body:=apn 7 au.d1) (S:=fun i=>[.l (f.bts.map Bt.e),.i (f.bts.length:Nat),.i (i:Nat)]++f.e) (p:=btA f) (n:=f.bts.length) (b:=0) (ys:=f.e) (r:=[.b false])
  (fun i hi=>by
   have hsz:=hz.1.2 _ (Mq hi)
   have e3:((i:Int)<(f.bts.length:Int)):=by omega
   have hp:btA f i=(dR f.bts[i]&&(i==0||match f.bts[i-1]? with|some q=>sLt q.name f.bts[i].name|none=>true)):=by simp only[btA,Mg hi]<;>rfl
   have hb:=Aj f.bts[i] hsz
   simp only[Bt.e] at hb
   simp only[Fl.e,jA,jB,apL,jC,jD,au.d1,C.I_i,C.L_l,jW,jY,getD_map' Bt.e hi,e3,Mt,jR,jX,w1 hi hl]
   simp only[Bt.e,jC,jD,hb,ad,jI,C.B_b,C.S_s,hp]
   cases dR f.bts[i] with
   |false=>simp
   |true=>
    rcases Nat.eq_zero_or_pos i with h0|h0
    ·subst h0;simp
    ·have hi1:i-1<f.bts.length:=by omega
     have hw:w64 ((i:Int)-1)=((i-1:Nat):Int):=by rw[aN (by omega) (by simp only[big] at hl;omega)];omega
     have e1:((i:Int)>0):=by omega
     have e2:(((i-1:Nat):Int)<(f.bts.length:Int)):=by omega
     have e4:(i==0)=false:=by simp;omega
     have hn0:(f.bts[i-1].e.getD 0 .nil).S=f.bts[i-1].name:=rfl
     simp only[hw,jY,getD_map' Bt.e hi1,e1,e2,e4,Mt,jR,jX,Mg hi1,Nj,jZ,ja,jS,Mx,hn0,rN]
     cases sLt f.bts[i-1].name f.bts[i].name<;>simp)
  (by simp[au.d1,Fl.e]) f.bts.length 0 rfl
 simp only[Mr] at h
 rw[h]
 cases aA (btA f) 0 f.bts.length<;>simp
theorem Me (K:List C->R):ah 2 (lim (apn 8 au.d2) ([.l (f.svs.map Sv.e),.i (f.svs.length:Nat),.i 0]++f.e++[.l []])) K=bif aA (svA f) 0 f.svs.length then K (f.e++[.l (wE f.svs f.svs.length)]) else some (.ret [.b false]):=by
 have hl:f.svs.length<big:=by have:=hz.2.1.1;simp only[big];omega
 have h:=dz (body:=apn 8 au.d2) (S:=fun i=>[.l (f.svs.map Sv.e),.i (f.svs.length:Nat),.i (i:Nat)]++f.e++[.l (wE f.svs i)]) (p:=svA f) (n:=f.svs.length) (b:=2) (ys:=f.e++[.l (wE f.svs f.svs.length)]) (r:=[.b false])
  (fun i hi=>by
   have hsz:=hz.2.1.2 _ (Mq hi)
   have e3:((i:Int)<(f.svs.length:Int)):=by omega
   have hp:svA f i=(bf f.svs[i].name&&((i==0||match f.svs[i-1]? with|some q=>sLt q.name f.svs[i].name|none=>true)&&within f.svs[i].spare 0 60)):=by simp only[svA,Mg hi]<;>rfl
   simp only[Fl.e,jA,jB,apL,jC,jD,au.d2,C.I_i,C.L_l,jW,jY,getD_map' Sv.e hi,w1 hi hl,e3,Mt,jR,jX,hp,wE,Mg hi]
   simp only[Sv.e,jC,jD,gx _ hsz,n9,ad,jI,C.B_b,C.S_s]
   cases hn:bf f.svs[i].name with
   |false=>simp
   |true=>
    cases within f.svs[i].spare 0 60 with
    |false=>simp
    |true=>
     rcases Nat.eq_zero_or_pos i with h0|h0
     ·subst h0;simp
     ·have hi1:i-1<f.svs.length:=by omega
      have hw:w64 ((i:Int)-1)=((i-1:Nat):Int):=by rw[aN (by omega) (by simp only[big] at hl;omega)];omega
      have e1:((i:Int)>0):=by omega
      have e2:(((i-1:Nat):Int)<(f.svs.length:Int)):=by omega
      have e4:(i==0)=false:=by simp;omega
      have hn0:(f.svs[i-1].e.getD 0 .nil).S=f.svs[i-1].name:=rfl
      simp only[hw,jY,getD_map' Sv.e hi1,e1,e2,e4,Mt,jR,jX,Mg hi1,Nj,jZ,ja,jS,Mx,hn0,rN]
      cases sLt f.svs[i-1].name f.svs[i].name<;>simp)
  (by simp[au.d2,Fl.e]) f.svs.length 0 rfl
 simp only[Mr,wE] at h
 rw[h]
 cases aA (svA f) 0 f.svs.length<;>simp
theorem LV (K:List C->R):ah 4 (lim (apn 9 au.d4) ([.l (f.cps.map Cp.e),.i (f.cps.length:Nat),.i 0]++f.e++[.l (wE f.svs f.svs.length),.l []])) K=bif aA (cpA f) 0 f.cps.length then K (f.e++[.l (um f.cps f.cps.length)]) else some (.ret [.b false]):=by
 have hl:f.cps.length<big:=by have:=hz.2.2.1;simp only[big];omega
 have h:=dz (body:=apn 9 au.d4) (S:=fun i=>[.l (f.cps.map Cp.e),.i (f.cps.length:Nat),.i (i:Nat)]++f.e++[.l (wE f.svs f.svs.length),.l (um f.cps i)]) (p:=cpA f) (n:=f.cps.length) (b:=4) (ys:=f.e++[.l (um f.cps f.cps.length)]) (r:=[.b false])
  (fun i hi=>by
   have hsz:=hz.2.2.2 _ (Mq hi)
   have e3:((i:Int)<(f.cps.length:Int)):=by omega
   have hp:cpA f i=(kA f.cps[i]&&(f.svs.any (fun s=>sEq s.name f.cps[i].svc)&&((i==0||match f.cps[i-1]? with|some q=>sLt q.name f.cps[i].name|none=>true)&&(sEq f.cps[i].at_ (mkS [])||f.bts.any (fun b=>sEq b.name f.cps[i].at_))))):=by simp only[cpA,Mg hi]<;>rfl
   have hbt:=jj f f.cps[i].at_ hz.1.1
   have hco:=Cg f.cps[i] hsz
   have q1:(f.cps[i].at_.toList==(bs #[]).toList)=sEq f.cps[i].at_ (mkS []):=rfl
   have hb1:decide (bIx f f.cps[i].at_<0)=!f.bts.any (fun b=>sEq b.name f.cps[i].at_):=nj _ _ _
   have hsm:=CQ f.svs f.cps[i].svc f.svs.length (Mp _)
   rw[Na] at hsm
   simp only[Fl.e,jA,jB] at hbt
   simp only[Cp.e] at hco
   simp only[Fl.e,jA,jB,apL,jC,jD,au.d4,C.I_i,C.L_l,jW,jY,getD_map' Cp.e hi,e3,Mt,jR,jX,hp]
   simp only[Cp.e,jC,jD,hco,hbt,ad,jI,C.B_b,C.S_s,C.I_i,q1,hb1,hsm]
   have hd3:∀(b:Bool),au.d3 (.l (f.cps.map Cp.e)) (.i (f.cps.length:Nat)) (.i (i:Nat)) (.b b) (.b f.pack) (.l (f.bts.map Bt.e)) (.l (f.svs.map Sv.e)) (.l (f.cps.map Cp.e)) (.l (wE f.svs f.svs.length)) (.l (um f.cps i)) (.s f.cps[i].name) (.s f.cps[i].svc) (.i f.cps[i].rank) (.i f.cps[i].born) (.i f.cps[i].room) (.i f.cps[i].hold) (.s f.cps[i].sel) (.l (f.cps[i].likes.map Lk.e)) (.i f.cps[i].apart) (.s f.cps[i].near) (.s f.cps[i].fixed) (.s f.cps[i].at_)=bif b then some (.ret [.b false]) else some (.again [.l (f.cps.map Cp.e),.i (f.cps.length:Nat),.i (i+1:Nat),.b f.pack,.l (f.bts.map Bt.e),.l (f.svs.map Sv.e),.l (f.cps.map Cp.e),.l (wE f.svs f.svs.length),.l (um f.cps (i+1))]):=fun b=>by
    simp only[au.d3,C.B_b,C.I_i,C.L_l,C.S_s,w1 hi hl,um,Mg hi]
   cases kA f.cps[i] with
   |false=>simp[hd3]
   |true=>
    cases f.svs.any (fun s=>sEq s.name f.cps[i].svc) with
    |false=>simp[hd3]
    |true=>
     rcases Nat.eq_zero_or_pos i with h0|h0
     ·subst h0
      simp only[Mr] at hd3
      cases sEq f.cps[0].at_ (mkS [])<;>cases f.bts.any (fun b=>sEq b.name f.cps[0].at_)<;>simp[hd3]
     ·have hi1:i-1<f.cps.length:=by omega
      have hw:w64 ((i:Int)-1)=((i-1:Nat):Int):=by rw[aN (by omega) (by simp only[big] at hl;omega)];omega
      have e1:((i:Int)>0):=by omega
      have e2:(((i-1:Nat):Int)<(f.cps.length:Int)):=by omega
      have e4:(i==0)=false:=by simp;omega
      have hn0:(f.cps[i-1].e.getD 0 .nil).S=f.cps[i-1].name:=rfl
      simp only[hw,jY,getD_map' Cp.e hi1,e1,e2,e4,Mt,jR,jX,Mg hi1,Nj,jZ,ja,jS,Mx,hn0,rN]
      cases sLt f.cps[i-1].name f.cps[i].name<;>cases sEq f.cps[i].at_ (mkS [])<;>cases f.bts.any (fun b=>sEq b.name f.cps[i].at_)<;>simp[hd3])
  (by simp[au.d4,Fl.e]) f.cps.length 0 rfl
 simp only[Mr,um] at h
 rw[h]
 cases aA (cpA f) 0 f.cps.length<;>simp
theorem LX (K:List C->R):ah 6 (lim (apn 8 au.d5) ([.l (f.bts.map Bt.e),.i (f.bts.length:Nat),.i 0]++f.e++[.l (um f.cps f.cps.length)])) K=bif aA (tq f) 0 f.bts.length then K [] else some (.ret [.b false]):=by
 have hl:f.bts.length<big:=by have:=hz.1.1;simp only[big];omega
 have hlc:f.cps.length<big:=by have:=hz.2.2.1;simp only[big];omega
 have h:=dz (body:=apn 8 au.d5) (S:=fun i=>[.l (f.bts.map Bt.e),.i (f.bts.length:Nat),.i (i:Nat)]++f.e++[.l (um f.cps f.cps.length)]) (p:=tq f) (n:=f.bts.length) (b:=6) (ys:=[]) (r:=[.b false])
  (fun i hi=>by
   have e3:((i:Int)<(f.bts.length:Int)):=by omega
   have hq:tq f i=(decide ((used f f.bts[i].name).1<=f.bts[i].room)&&(decide ((used f f.bts[i].name).2<=f.bts[i].hold)&&decide (eR f.cps f.bts[i].name f.cps.length<=10))):=by simp[tq,hi]
   have hu:=yK f f.bts[i].name hz
   have hmc:=zj f.cps hlc f.bts[i].name f.cps.length (Mp _)
   have g1:decide ((used f f.bts[i].name).1>f.bts[i].room)=!decide ((used f f.bts[i].name).1<=f.bts[i].room):=by rw[←decide_not,decide_eq_decide];omega
   have g2:decide ((used f f.bts[i].name).2>f.bts[i].hold)=!decide ((used f f.bts[i].name).2<=f.bts[i].hold):=by rw[←decide_not,decide_eq_decide];omega
   have g3:decide ((eR f.cps f.bts[i].name f.cps.length:Int)>10)=!decide (eR f.cps f.bts[i].name f.cps.length<=10):=by rw[←decide_not,decide_eq_decide];omega
   simp only[Fl.e,jA,jB] at hu
   simp only[Fl.e,jA,jB,apL,jC,jD,au.d5,C.I_i,C.L_l,jW,jY,getD_map' Bt.e hi,e3,Mt,jR,jX,w1 hi hl]
   simp only[Bt.e,jC,jD,hu,call2,jI,C.S_s,C.I_i,hmc,g1,g2,g3,hq,Bool.not_not]
   cases decide ((used f f.bts[i].name).1<=f.bts[i].room)<;>cases decide ((used f f.bts[i].name).2<=f.bts[i].hold)<;>cases decide (eR f.cps f.bts[i].name f.cps.length<=10)<;>simp)
  (by simp[au.d5,Fl.e]) f.bts.length 0 rfl
 simp only[Mr] at h
 rw[h]
 cases aA (tq f) 0 f.bts.length<;>simp
theorem jx:au f.e=some [.b (bl f)]:=by
 have h1:=L4 hz (apn 4 au.d9)
 have h2:=Me hz (apn 5 au.d8)
 have h3:=LV hz (apn 5 au.d7)
 have h4:=LX hz (fun xs=>au.d6)
 simp only[Fl.e,jA,jB] at h1 h2 h3 h4
 have g1:decide ((f.bts.length:Int)>12)=!decide (f.bts.length<=12):=by rw[←decide_not,decide_eq_decide];omega
 have g2:decide ((f.svs.length:Int)>30)=!decide (f.svs.length<=30):=by rw[←decide_not,decide_eq_decide];omega
 have g3:decide ((f.cps.length:Int)>60)=!decide (f.cps.length<=60):=by rw[←decide_not,decide_eq_decide];omega
 simp only[au,au.d10,Fl.e,apL,jC,jD,C.L_l,jW,g1,g2,g3,Bool.not_not,h1,bl]
 cases decide (f.bts.length<=12) with
 |false=>simp
 |true=>
 cases decide (f.svs.length<=30) with
 |false=>simp
 |true=>
 cases decide (f.cps.length<=60) with
 |false=>simp
 |true=>
 cases hb:aA (btA f) 0 f.bts.length with
 |false=>simp
 |true=>
 simp only[jR,jZ,jS,Mx,au.d9,apL,jC,jD,C.L_l,jW,af,h2]
 cases hs:aA (svA f) 0 f.svs.length with
 |false=>simp
 |true=>
 simp only[jR,Mx,au.d8,apL,jC,jD,C.L_l,jW,af,h3]
 cases hc:aA (cpA f) 0 f.cps.length with
 |false=>simp
 |true=>
 simp only[jR,Mx,au.d7,apL,jC,jD,C.L_l,jW,h4]
 cases aA (tq f) 0 f.bts.length<;>simp[au.d6]
end
end Go.Ev
namespace Go.Ev
theorem kV {α:Type} (p:α->Bool):∀(l:List α) (n:Nat),ew p l n<0∨∃i,∃h:i<l.length,ew p l n=((n+i:Nat):Int)/\p l[i]=true
 |[],n=>.inl (by simp[ew])
 |x::r,n=>by
  cases hx:p x with
  |true=>exact .inr ⟨0,by simp,by simp[ew,hx],by simpa using hx⟩
  |false=>
   rcases kV p r (n+1) with h|⟨i,h,h1,h2⟩
   ·exact .inl (by simpa [ew,hx] using h)
   ·exact .inr ⟨i+1,by simpa using h,by simp[ew,hx,h1];omega,by simpa using h2⟩
def jm (f:Fl) (g:List Str) (i:Nat):Bool:=match f.cps[(cIx f (sAt g i)).toNat]? with
 |some c=>decide (0<=cIx f (sAt g i))&&(!sEq c.at_ (mkS [])&&(i==0||sLt (sAt g (i-1)) (sAt g i)))
 |none=>false
def qh (f:Fl) (g:List Str) (i:Nat):Str:=match f.cps[(cIx f (sAt g i)).toNat]? with
 |some c=>c.svc
 |none=>mkS []
def jE (f:Fl) (g:List Str) (nm:Str):Nat->Nat
 |0=>0
 |i+1=>bif sEq (qh f g i) nm then jE f g nm i+1 else jE f g nm i
theorem Cf (f:Fl) (g:List Str) (nm:Str):∀i,jE f g nm i<=i
 |0=>Mp _
 |i+1=>by
  have:=Cf f g nm i
  simp only[jE]
  cases sEq (qh f g i) nm<;>simp<;>omega
def jL (l:List Cp) (nm:Str):Nat->Nat
 |0=>0
 |i+1=>match l[i]? with
  |some c=>bif sEq c.svc nm&&sEq c.at_ (mkS []) then jL l nm i+1 else jL l nm i
  |none=>jL l nm i
theorem ug (l:List Cp) (nm:Str):∀i,jL l nm i<=i
 |0=>Mp _
 |i+1=>by
  have:=ug l nm i
  simp only[jL]
  split
  ·rename_i c _
   cases sEq c.svc nm&&sEq c.at_ (mkS [])<;>simp<;>omega
  ·omega
theorem DL (b:Bool):A7 [.b b]=some [.i (bif b then 1 else 0)]:=by cases b<;>rfl
def vu (f:Fl) (g:List Str) (i:Nat):Bool:=match f.svs[i]? with
 |some s=>jE f g s.name g.length==0||decide ((jE f g s.name g.length:Int)<=s.spare-jL f.cps s.name f.cps.length)
 |none=>true
def mg (f:Fl) (g:List Str):Bool:=aA (jm f g) 0 g.length&&aA (vu f g) 0 f.svs.length
section
variable {f:Fl} {g:List Str} (hz:f.Sz 1048576) (hg:yu 1048576 g)
include hz hg
theorem L3 (K:List C->R):ah 0 (lim (apn 6 aV.d1) ([.l (g.map sE),.i 0]++f.e)) K=bif aA (jm f g) 0 g.length then K (.l (g.map sE)::f.e) else some (.ret [.b false]):=by
 have hl:g.length<big:=by have:=hg.1;simp only[big];omega
 have h:=dz (body:=apn 6 aV.d1) (S:=fun i=>[.l (g.map sE),.i (i:Nat)]++f.e) (p:=jm f g) (n:=g.length) (b:=0) (ys:=.l (g.map sE)::f.e) (r:=[.b false])
  (fun i hi=>by
   have e3:((i:Int)<(g.length:Int)):=by omega
   have hc:=gj f (sAt g i) hz.2.2.1
   simp only[Fl.e,jA,jB] at hc
   simp only[Fl.e,jA,jB,apL,jC,jD,aV.d1,C.I_i,C.L_l,jW,jY,getD_map' sE hi,←eu hi,e3,Mt,jR,jX,w1 hi hl]
   simp only[sE,jC,hc,ad,jI,C.I_i,C.S_s]
   rcases kV (fun x:Cp=>sEq x.name (sAt g i)) f.cps 0 with h|⟨k,hk,h1,h2⟩
   ·have h:cIx f (sAt g i)<0:=h
    have:jm f g i=false:=by
     unfold jm
     have h':decide (0<=cIx f (sAt g i))=false:=by simp;omega
     split<;>simp[h']
    simp[h,this]
   ·have h1:cIx f (sAt g i)=(k:Nat):=by rw[←My k];exact h1
    have e5:¬((k:Int)<0):=by omega
    have e6:((k:Int)<(f.cps.length:Int)):=by omega
    have hp:jm f g i=(!sEq f.cps[k].at_ (mkS [])&&(i==0||sLt (sAt g (i-1)) (sAt g i))):=by
     unfold jm
     rw[h1,jY,Mg hk]
     simp
    have q1:((f.cps[k].e.getD 11 .nil).S.toList==(bs #[]).toList)=sEq f.cps[k].at_ (mkS []):=rfl
    simp only[h1,e5,e6,Mt,Mu,jY,getD_map' Cp.e hk,q1,ja,jR,jS,jX,hp]
    cases sEq f.cps[k].at_ (mkS []) with
    |true=>simp
    |false=>
     rcases Nat.eq_zero_or_pos i with h0|h0
     ·subst h0;simp
     ·have hi1:i-1<g.length:=by omega
      have hw:w64 ((i:Int)-1)=((i-1:Nat):Int):=by rw[aN (by omega) (by simp only[big] at hl;omega)];omega
      have e1:((i:Int)>0):=by omega
      have e2:(((i-1:Nat):Int)<(g.length:Int)):=by omega
      have e4:(i==0)=false:=by simp;omega
      simp only[hw,jY,getD_map' sE hi1,←eu hi1,e1,e2,e4,Mt,jR,jX,Nj,jZ,ja,jS,Mx,sE,jC,C.S_s]
      show (bif (!sLt (sAt g (i-1)) (sAt g i)) then _ else _)=_
      cases sLt (sAt g (i-1)) (sAt g i)<;>simp)
  (by simp[aV.d1,Fl.e]) g.length 0 rfl
 simp only[Mr] at h
 rw[h]
 cases aA (jm f g) 0 g.length<;>simp
theorem JA (h:aA (jm f g) 0 g.length=true) {i:Nat} (hi:i<g.length):∃k,∃hk:k<f.cps.length,cIx f (sAt g i)=(k:Nat)/\qh f g i=f.cps[k].svc:=by
 have:=(cj _ _ _).1 h i (Nat.zero_le _) (by omega)
 rcases kV (fun x:Cp=>sEq x.name (sAt g i)) f.cps 0 with h|⟨k,hk,h1,h2⟩
 ·have h:cIx f (sAt g i)<0:=h
  have h':decide (0<=cIx f (sAt g i))=false:=by simp;omega
  unfold jm at this
  split at this<;>simp[h'] at this
 ·have h1:cIx f (sAt g i)=(k:Nat):=by rw[←My k];exact h1
  exact ⟨k,hk,h1,by unfold qh;rw[h1,jY,Mg hk]⟩
theorem LZ (ha:aA (jm f g) 0 g.length=true) (hs:∀s,s∈f.svs->0<=s.spare/\s.spare<=60) (K:List C->R):ah 2 (lim (apn 6 aV.d6) ([.l (g.map sE),.i 0]++f.e)) K=bif aA (vu f g) 0 f.svs.length then K [] else some (.ret [.b false]):=by
 have hl:f.svs.length<big:=by have:=hz.2.1.1;simp only[big];omega
 have hlc:f.cps.length<big:=by have:=hz.2.2.1;simp only[big];omega
 have hlg:g.length<big:=by have:=hg.1;simp only[big];omega
 have h:=dz (body:=apn 6 aV.d6) (S:=fun i=>[.l (g.map sE),.i (i:Nat)]++f.e) (p:=vu f g) (n:=f.svs.length) (b:=2) (ys:=[]) (r:=[.b false])
  (fun i hi=>by
   have e3:((i:Int)<(f.svs.length:Int)):=by omega
   have hsp:=hs _ (Mq hi)
   have hp:vu f g i=(jE f g f.svs[i].name g.length==0||decide ((jE f g f.svs[i].name g.length:Int)<=f.svs[i].spare-jL f.cps f.svs[i].name f.cps.length)):=by simp only[vu,Mg hi]
   have L1:=bQ (body:=apn 9 aV.d2) (S:=fun k=>[.l (g.map sE),.i (i:Nat),C.i (f.svs[i].spare-((jL f.cps f.svs[i].name k:Nat):Int)),.i 0,.i (k:Nat)]++f.e) (n:=f.cps.length) (b:=4) (ys:=[.l (g.map sE),.i (i:Nat),C.i (f.svs[i].spare-((jL f.cps f.svs[i].name f.cps.length:Nat):Int)),.i 0]++f.e)
    (fun k hk=>by
     have e5:((k:Int)<(f.cps.length:Int)):=by omega
     have hwl:=ug f.cps f.svs[i].name k
     have hw:w64 (f.svs[i].spare-(jL f.cps f.svs[i].name k:Int)-1)=f.svs[i].spare-((jL f.cps f.svs[i].name k+1:Nat):Int):=by simp only[big] at hlc;rw[aN (by omega) (by omega)];omega
     simp only[Fl.e,jA,jB,apL,jC,jD,aV.d2,C.I_i,C.L_l,jW,jY,getD_map' Cp.e hk,getD_map' Sv.e hi,e3,e5,Mt,jR,jX,w1 hk hlc,jL,Mg hk,hw]
     simp only[Cp.e,Sv.e,jC,jD,C.S_s]
     show (bif sEq f.cps[k].svc f.svs[i].name then (bif sEq f.cps[k].at_ (mkS []) then _ else _) else _)=_
     cases sEq f.cps[k].svc f.svs[i].name<;>cases sEq f.cps[k].at_ (mkS [])<;>simp)
    (by simp[aV.d2,Fl.e]) f.cps.length 0 rfl
   have L2:=bQ (body:=apn 9 aV.d3) (S:=fun k=>[.l (g.map sE),.i (i:Nat),C.i (f.svs[i].spare-((jL f.cps f.svs[i].name f.cps.length:Nat):Int)),.i (jE f g f.svs[i].name k:Nat),.i (k:Nat)]++f.e) (n:=g.length) (b:=6) (ys:=[.l (g.map sE),.i (i:Nat),C.i (f.svs[i].spare-((jL f.cps f.svs[i].name f.cps.length:Nat):Int)),.i (jE f g f.svs[i].name g.length:Nat)]++f.e)
    (fun k hk=>by
     have e5:((k:Int)<(g.length:Int)):=by omega
     obtain ⟨j,hj,h1,h2⟩:=JA hz hg ha hk
     have hc:=gj f (sAt g k) hz.2.2.1
     simp only[Fl.e,jA,jB] at hc
     have e6:((j:Int)<(f.cps.length:Int)):=by omega
     have hw:=ua (n:=jE f g f.svs[i].name k) (by have:=Cf f g f.svs[i].name k;omega)
     simp only[Fl.e,jA,jB,apL,jC,jD,aV.d3,C.I_i,C.L_l,jW,jY,getD_map' sE hk,←eu hk,e3,e5,Mt,jR,jX,w1 hk hlg,jE,hw,h2]
     simp only[sE,jC,hc,ad,jI,C.I_i,h1,e6,Mt,jR,jX,jY,getD_map' Cp.e hj,getD_map' Sv.e hi]
     simp only[Cp.e,Sv.e,jC,jD,C.S_s]
     show (bif sEq f.cps[j].svc f.svs[i].name then _ else _)=_
     cases sEq f.cps[j].svc f.svs[i].name<;>simp)
    (by simp[aV.d3,Fl.e]) g.length 0 rfl
   have e7:f.svs[i].spare-((0:Nat):Int)=f.svs[i].spare:=by omega
   simp only[Fl.e,jA,jB,Mr,jL,jE,Int.sub_zero,e7] at L1 L2
   simp only[Fl.e,jA,jB,apL,jC,jD,aV.d6,C.I_i,C.L_l,jW,jY,getD_map' Sv.e hi,e3,Mt,jR,jX]
   have hsp0:f.svs[i].e.getD 1 .nil=.i f.svs[i].spare:=rfl
   rw[hsp0,L1]
   simp only[aq,apL,jC,jD,aV.d5]
   rw[L2]
   simp only[aq,apL,jC,jD,aV.d4,C.I_i,w1 hi hl,hp]
   by_cases g0:jE f g f.svs[i].name g.length=0
   ·simp[g0]
   ·have e8:((jE f g f.svs[i].name g.length:Int)>0):=by omega
    have e9:(jE f g f.svs[i].name g.length==0)=false:=by simp[g0]
    have e10:decide ((jE f g f.svs[i].name g.length:Int)>f.svs[i].spare-(jL f.cps f.svs[i].name f.cps.length:Int))=!decide ((jE f g f.svs[i].name g.length:Int)<=f.svs[i].spare-(jL f.cps f.svs[i].name f.cps.length:Int)):=by rw[←decide_not,decide_eq_decide];omega
    simp only[e8,e9,e10,Mt,jR,Nj]
    cases decide ((jE f g f.svs[i].name g.length:Int)<=f.svs[i].spare-(jL f.cps f.svs[i].name f.cps.length:Int))<;>simp)
  (by simp[aV.d6,Fl.e]) f.svs.length 0 rfl
 simp only[Mr] at h
 rw[h]
 cases aA (vu f g) 0 f.svs.length<;>simp
theorem Iz (h:aA (svA f) 0 f.svs.length=true):∀s,s∈f.svs->0<=s.spare/\s.spare<=60:=by
 intro s hs
 obtain ⟨i,hi,rfl⟩:=List.getElem_of_mem hs
 have:=(cj _ _ _).1 h i (Nat.zero_le _) (by omega)
 simp only[svA,Mg hi,Mk,within,Ms] at this
 exact this.2.2
theorem zF (h:bl f=true):aA (svA f) 0 f.svs.length=true:=by
 simp only[bl,Mk] at h
 exact h.2.2.2.1
theorem uU (h:bl f=true):aV (f.e++[.l (g.map sE)])=some [.b (mg f g)]:=by
 have h1:=L3 hz hg (apn 5 aV.d8)
 simp only[Fl.e,jA,jB] at h1
 simp only[aV,aV.d9,Fl.e,jA,jB,apL,jC,jD,h1,mg]
 cases ha:aA (jm f g) 0 g.length with
 |false=>simp
 |true=>
  have h2:=LZ hz hg ha (Iz hz hg (zF hz hg h)) (fun xs=>aV.d7)
  simp only[Fl.e,jA,jB] at h2
  simp only[jR,Mx,apL,jC,jD,aV.d8,h2]
  cases aA (vu f g) 0 f.svs.length<;>simp[aV.d7]
theorem xk:gV (f.e++[.l (g.map sE)])=some [.b (bl f&&mg f g)]:=by
 have h1:=fq hz
 simp only[Fl.e] at h1
 simp only[gV,gV.d1,Fl.e,jA,jB,apL,jC,jD,h1,ad,jI,C.B_b]
 cases h:bl f with
 |false=>simp
 |true=>
  have h2:=uU hz hg h
  simp only[Fl.e,jA,jB] at h2
  simp[h2]
def wg (f:Fl) (g:List Str):Nat->List (List C)
 |0=>[]
 |i+1=>l8 (qh f g i) (.i (w64 ((j7 (.i 0) (qh f g i) (wg f g i)).I+1))) (wg f g i)
omit hz in
theorem yE (nm:Str):∀i,i<=g.length->j7 (.i 0) nm (wg f g i)=.i (jE f g nm i:Nat)
 |0,_=>rfl
 |i+1,h=>by
  have ih:=yE nm i (by omega)
  have ih2:=yE (qh f g i) i (by omega)
  have hlg:g.length<big:=by have:=hg.1;simp only[big];omega
  rw[wg,jE,oQ,ih,ih2,nq]
  have hw:=ua (n:=jE f g (qh f g i) i) (by have:=Cf f g (qh f g i) i;omega)
  cases hq:sEq (qh f g i) nm with
  |true=>
   have:=(dc _ _).1 hq
   subst this
   simp only[jR,C.I_i,hw]
  |false=>rfl
theorem Md (K:List C->R):ah 0 (lim (apn 9 bw.d1) ([.l (g.map sE),.l (g.map sE),.i (g.length:Nat),.i 0]++f.e++[.l []])) K=bif aA (jm f g) 0 g.length then K (f.e++[.l (wg f g g.length)]) else some (.ret [.b false]):=by
 have hl:g.length<big:=by have:=hg.1;simp only[big];omega
 have h:=dz (body:=apn 9 bw.d1) (S:=fun i=>[.l (g.map sE),.l (g.map sE),.i (g.length:Nat),.i (i:Nat)]++f.e++[.l (wg f g i)]) (p:=jm f g) (n:=g.length) (b:=0) (ys:=f.e++[.l (wg f g g.length)]) (r:=[.b false])
  (fun i hi=>by
   have e3:((i:Int)<(g.length:Int)):=by omega
   have hc:=kz f (sAt g i) hz.2.2.1
   simp only[Fl.e,jA,jB] at hc
   simp only[Fl.e,jA,jB,apL,jC,jD,bw.d1,C.I_i,C.L_l,jW,jY,getD_map' sE hi,←eu hi,e3,Mt,jR,jX,w1 hi hl]
   simp only[sE,jC,hc,ad,jI,C.I_i,C.S_s]
   rcases kV (fun x:Cp=>sEq x.name (sAt g i)) f.cps 0 with h|⟨k,hk,h1,h2⟩
   ·have h:cIx f (sAt g i)<0:=h
    have:jm f g i=false:=by
     unfold jm
     have h':decide (0<=cIx f (sAt g i))=false:=by simp;omega
     split<;>simp[h']
    simp[h,this]
   ·have h1:cIx f (sAt g i)=(k:Nat):=by rw[←My k];exact h1
    have e5:¬((k:Int)<0):=by omega
    have e6:((k:Int)<(f.cps.length:Int)):=by omega
    have hp:jm f g i=(!sEq f.cps[k].at_ (mkS [])&&(i==0||sLt (sAt g (i-1)) (sAt g i))):=by
     unfold jm
     rw[h1,jY,Mg hk]
     simp
    have hgs:qh f g i=f.cps[k].svc:=by unfold qh;rw[h1,jY,Mg hk]
    have q1:((f.cps[k].e.getD 11 .nil).S.toList==(bs #[]).toList)=sEq f.cps[k].at_ (mkS []):=rfl
    have q2:(f.cps[k].e.getD 1 .nil).S=f.cps[k].svc:=rfl
    simp only[h1,e5,e6,Mt,Mu,jY,getD_map' Cp.e hk,q1,q2,ja,jR,jS,jX,hp,wg,hgs]
    cases sEq f.cps[k].at_ (mkS []) with
    |true=>simp
    |false=>
     rcases Nat.eq_zero_or_pos i with h0|h0
     ·subst h0;simp
     ·have hi1:i-1<g.length:=by omega
      have hw:w64 ((i:Int)-1)=((i-1:Nat):Int):=by rw[aN (by omega) (by simp only[big] at hl;omega)];omega
      have e1:((i:Int)>0):=by omega
      have e2:(((i-1:Nat):Int)<(g.length:Int)):=by omega
      have e4:(i==0)=false:=by simp;omega
      simp only[hw,jY,getD_map' sE hi1,←eu hi1,e1,e2,e4,Mt,jR,jX,Nj,jZ,ja,jS,Mx,sE,jC,C.S_s,rN]
      cases sLt (sAt g (i-1)) (sAt g i)<;>simp)
  (by simp[bw.d1,Fl.e]) g.length 0 rfl
 simp only[Mr,wg] at h
 rw[h]
 cases aA (jm f g) 0 g.length<;>simp
theorem Mc (hs:∀s,s∈f.svs->0<=s.spare/\s.spare<=60) (K:List C->R):ah 2 (lim (apn 8 bw.d5) ([.l (f.svs.map Sv.e),.i (f.svs.length:Nat),.i 0]++f.e++[.l (wg f g g.length)])) K=bif aA (vu f g) 0 f.svs.length then K [] else some (.ret [.b false]):=by
 have hl:f.svs.length<big:=by have:=hz.2.1.1;simp only[big];omega
 have hlc:f.cps.length<big:=by have:=hz.2.2.1;simp only[big];omega
 have h:=dz (body:=apn 8 bw.d5) (S:=fun i=>[.l (f.svs.map Sv.e),.i (f.svs.length:Nat),.i (i:Nat)]++f.e++[.l (wg f g g.length)]) (p:=vu f g) (n:=f.svs.length) (b:=2) (ys:=[]) (r:=[.b false])
  (fun i hi=>by
   have e3:((i:Int)<(f.svs.length:Int)):=by omega
   have hsp:=hs _ (Mq hi)
   have hp:vu f g i=(jE f g f.svs[i].name g.length==0||decide ((jE f g f.svs[i].name g.length:Int)<=f.svs[i].spare-jL f.cps f.svs[i].name f.cps.length)):=by simp only[vu,Mg hi]
   have L1:=bQ (body:=apn 14 bw.d2) (S:=fun k=>[C.i ((jL f.cps f.svs[i].name k:Nat):Int),.l (f.svs.map Sv.e),.i (f.svs.length:Nat),.i (i:Nat),.l (f.cps.map Cp.e),.i (f.cps.length:Nat),.i (k:Nat)]++f.e++[.l (wg f g g.length),C.s f.svs[i].name,C.i f.svs[i].spare]) (n:=f.cps.length) (b:=4) (ys:=[.i (jL f.cps f.svs[i].name f.cps.length:Nat),.l (f.svs.map Sv.e),.i (f.svs.length:Nat),.i (i:Nat)]++f.e++[.l (wg f g g.length),C.s f.svs[i].name,C.i f.svs[i].spare])
    (fun k hk=>by
     have e5:((k:Int)<(f.cps.length:Int)):=by omega
     have hw:=ua (n:=jL f.cps f.svs[i].name k) (by have:=ug f.cps f.svs[i].name k;omega)
     have hw0:w64 ((jL f.cps f.svs[i].name k:Nat):Int)=(jL f.cps f.svs[i].name k:Nat):=by have:=ug f.cps f.svs[i].name k;simp only[big] at hlc;rw[aN (by omega) (by omega)]
     simp only[Fl.e,jA,jB,apL,jC,jD,bw.d2,C.I_i,C.L_l,C.S_s,jW,jY,getD_map' Cp.e hk,e5,Mt,jR,jX,w1 hk hlc,jL,Mg hk]
     simp only[Cp.e,jC,jD,C.S_s,DL,ad,jI,C.I_i]
     have q1:(f.cps[k].svc.toList==f.svs[i].name.toList)=sEq f.cps[k].svc f.svs[i].name:=rfl
     have q2:(f.cps[k].at_.toList==(bs #[]).toList)=sEq f.cps[k].at_ (mkS []):=rfl
     simp only[q1,q2]
     cases sEq f.cps[k].svc f.svs[i].name<;>cases sEq f.cps[k].at_ (mkS [])<;>simp[hw,hw0,DL])
    (by simp[bw.d2,Fl.e]) f.cps.length 0 rfl
   simp only[Fl.e,jA,jB,Mr,jL] at L1
   have hn0:f.svs[i].e.getD 0 .nil=.s f.svs[i].name:=rfl
   have hn1:f.svs[i].e.getD 1 .nil=.i f.svs[i].spare:=rfl
   have hmg:=yE (f:=f) hg f.svs[i].name g.length (Mp _)
   have hwl:=ug f.cps f.svs[i].name f.cps.length
   have hw:w64 (f.svs[i].spare-(jL f.cps f.svs[i].name f.cps.length:Int))=f.svs[i].spare-(jL f.cps f.svs[i].name f.cps.length:Int):=by simp only[big] at hlc;rw[aN (by omega) (by omega)]
   simp only[Fl.e,jA,jB,apL,jC,jD,bw.d5,C.I_i,C.L_l,jW,jY,getD_map' Sv.e hi,e3,Mt,jR,jX,hn0,hn1,C.S_s,hmg,hp]
   by_cases g0:jE f g f.svs[i].name g.length=0
   ·have e8:(((jE f g f.svs[i].name g.length:Nat):Int)==0)=true:=by simp[g0]
    simp only[e8,jR]
    simp[bw.d4,w1 hi hl,g0]
   ·have e8:(((jE f g f.svs[i].name g.length:Nat):Int)==0)=false:=by rw[Ns];omega
    have e9:(jE f g f.svs[i].name g.length==0)=false:=by simp[g0]
    have e10:decide ((jE f g f.svs[i].name g.length:Int)>f.svs[i].spare-(jL f.cps f.svs[i].name f.cps.length:Int))=!decide ((jE f g f.svs[i].name g.length:Int)<=f.svs[i].spare-(jL f.cps f.svs[i].name f.cps.length:Int)):=by rw[←decide_not,decide_eq_decide];omega
    simp only[e8,jS,L1,aq,apL,jC,jD,bw.d3,C.I_i,C.L_l,C.S_s,hmg,hw,e9,e10,Nj]
    cases decide ((jE f g f.svs[i].name g.length:Int)<=f.svs[i].spare-(jL f.cps f.svs[i].name f.cps.length:Int))<;>simp[bw.d4,w1 hi hl])
  (by simp[bw.d5,Fl.e]) f.svs.length 0 rfl
 simp only[Mr] at h
 rw[h]
 cases aA (vu f g) 0 f.svs.length<;>simp
theorem qW (h:bl f=true):bw (f.e++[.l (g.map sE)])=some [.b (mg f g)]:=by
 have h1:=Md hz hg (apn 5 bw.d7)
 have h2:=Mc hz hg (Iz hz hg (zF hz hg h)) (fun xs=>bw.d6)
 simp only[Fl.e,jA,jB] at h1 h2
 simp only[bw,bw.d8,Fl.e,jA,jB,apL,jC,jD,C.L_l,jW,af,h1,mg]
 cases ha:aA (jm f g) 0 g.length with
 |false=>simp
 |true=>
  simp only[jR,Mx,apL,jC,jD,bw.d7,C.L_l,jW,h2]
  cases aA (vu f g) 0 f.svs.length<;>simp[bw.d6]
theorem qp:gk (f.e++[.l (g.map sE)])=some [.b (bl f&&mg f g)]:=by
 have h1:=jx hz
 simp only[Fl.e] at h1
 simp only[gk,gk.d1,Fl.e,jA,jB,apL,jC,jD,h1,ad,jI,C.B_b]
 cases h:bl f with
 |false=>simp
 |true=>
  have h2:=qW hz hg h
  simp only[Fl.e,jA,jB] at h2
  simp[h2]
end
end Go.Ev
namespace Go.Ev
def oV (k:Nat) (n v:Tok) (m:Str):Bool:=sy m&&(sEq (gD m) (mkS n)&&(k==1||sEq (iO m) (mkS v)))
def Tr.meets (ms:List Str):Tr->Bool
 |.lf k n v=>k==0||ms.any (oV k n v)
 |.un t=>!t.meets ms
 |.bn k a b=>bif k==4 then a.meets ms&&b.meets ms else a.meets ms||b.meets ms
def Tr.Ok (t:Tr):Prop:=t.Wf∨t=.lf 0 [] []
theorem Du (q:Nat->Bool):∀(k i:Nat),(!aA (fun j=>!q j) i k)=true↔∃j,i<=j/\j<i+k/\q j=true:=by
 intro k i
 rw[MM,←Bool.not_eq_true,cj]
 constructor
 ·intro h
  apply Classical.byContradiction
  intro hn
  exact h fun j h1 h2=>by
   cases hq:q j with
   |false=>rfl
   |true=>exact absurd ⟨j,h1,h2,hq⟩ hn
 ·rintro ⟨j,h1,h2,h3⟩ h
  have:=h j h1 h2
  rw[h3] at this;simp at this
theorem CU (p:Str->Bool) (ms:List Str):aA (fun j=>!p (sAt ms j)) 0 ms.length=!ms.any p:=by
 rw[←Bool.not_not (b:=aA _ _ _)]
 congr 1
 rw[Bool.eq_iff_iff,Du,Nh]
 constructor
 ·rintro ⟨j,_,h1,h2⟩
  have hj:j<ms.length:=by omega
  rw[eu hj] at h2
  exact ⟨_,Mq hj,h2⟩
 ·rintro ⟨x,hx,h⟩
  obtain ⟨j,hj,rfl⟩:=List.getElem_of_mem hx
  exact ⟨j,Nat.zero_le _,by omega,by rw[eu hj];exact h⟩
section
variable {ms:List Str} (hz:yu 1048576 ms)
include hz
theorem KP (G:List C->Option (List C)) (k:Nat) (n v:Tok) (c:C) (K:List C->R):ah 1 (lim (apn 6 (bm.d2 G)) [.l (ms.map sE),.i 0,.i (k:Nat),.s (mkS n),.s (mkS v),c]) K=bif ms.any (oV k n v) then some (.ret [.b true]) else K []:=by
 have hl:ms.length<big:=by have:=hz.1;simp only[big];omega
 have h:=dz (body:=apn 6 (bm.d2 G)) (S:=fun i=>[.l (ms.map sE),.i (i:Nat),.i (k:Nat),.s (mkS n),.s (mkS v),c]) (p:=fun j=>!oV k n v (sAt ms j)) (n:=ms.length) (b:=1) (ys:=[]) (r:=[.b true])
  (fun i hi=>by
   have hsz:(sAt ms i).size<=1048576:=by rw[eu hi];exact hz.2 _ (Mq hi)
   have e3:((i:Int)<(ms.length:Int)):=by omega
   have q1:((gD (sAt ms i)).toList==(mkS n).toList)=sEq (gD (sAt ms i)) (mkS n):=rfl
   have q2:((iO (sAt ms i)).toList==(mkS v).toList)=sEq (iO (sAt ms i)) (mkS v):=rfl
   have q3:(((k:Nat):Int)==1)=(k==1):=by rw[Bool.eq_iff_iff,MY,MY];omega
   simp only[apL,jC,jD,bm.d2,bm.d1,C.I_i,C.L_l,jW,jY,getD_map' sE hi,←eu hi,w1 hi hl,e3,Mt,jR,jX]
   simp only[sE,jC,rn _ hsz,call3,jI,C.S_s,jD,C.B_b,q1,q2,q3,oV]
   cases sy (sAt ms i)<;>cases sEq (gD (sAt ms i)) (mkS n)<;>cases k==1<;>cases sEq (iO (sAt ms i)) (mkS v)<;>simp[bm.d1,w1 hi hl])
  (by simp[bm.d2]) ms.length 0 rfl
 simp only[Mr,CU] at h
 rw[h]
 cases ms.any (oV k n v)<;>simp
theorem KT (G:List C->Option (List C)) (k:Nat) (n v:Tok) (l:C) (K:List C->R):ah 1 (lim (apn 4 (ay.d2 G)) [.p [.i (k:Nat),.s (mkS n),.s (mkS v),l],.l (ms.map sE),.i (ms.length:Nat),.i 0]) K=bif ms.any (oV k n v) then some (.ret [.b true]) else K []:=by
 have hl:ms.length<big:=by have:=hz.1;simp only[big];omega
 have h:=dz (body:=apn 4 (ay.d2 G)) (S:=fun i=>[.p [.i (k:Nat),.s (mkS n),.s (mkS v),l],.l (ms.map sE),.i (ms.length:Nat),.i (i:Nat)]) (p:=fun j=>!oV k n v (sAt ms j)) (n:=ms.length) (b:=1) (ys:=[]) (r:=[.b true])
  (fun i hi=>by
   have hsz:(sAt ms i).size<=1048576:=by rw[eu hi];exact hz.2 _ (Mq hi)
   have e3:((i:Int)<(ms.length:Int)):=by omega
   have q1:((gD (sAt ms i)).toList==(mkS n).toList)=sEq (gD (sAt ms i)) (mkS n):=rfl
   have q2:((iO (sAt ms i)).toList==(mkS v).toList)=sEq (iO (sAt ms i)) (mkS v):=rfl
   have q3:(((k:Nat):Int)==1)=(k==1):=by rw[Bool.eq_iff_iff,MY,MY];omega
   simp only[apL,jC,jD,ay.d2,ay.d1,C.I_i,C.L_l,jW,jY,getD_map' sE hi,←eu hi,w1 hi hl,e3,Mt,jR,jX]
   simp only[sE,jC,zD _ hsz,call3,jI,C.S_s,jD,C.B_b,C.wT,C.P_p,C.I_i,jR,q1,q2,q3,oV]
   cases sy (sAt ms i)<;>cases sEq (gD (sAt ms i)) (mkS n)<;>cases k==1<;>cases sEq (iO (sAt ms i)) (mkS v)<;>simp[ay.d1,w1 hi hl])
  (by simp[ay.d2]) ms.length 0 rfl
 simp only[Mr,CU] at h
 rw[h]
 cases ms.any (oV k n v)<;>simp
theorem xH:∀(k:Nat) (t:Tr),t.depth<k->t.Ok->ay.g k 0 [t.enc,.l (ms.map sE)]=some [.b (t.meets ms)]
 |0,t,h,_=>by omega
 |k+1,t,h,hok=>by
  have hs:∀x,ay.g (k+1) 0 x=ay.step (ay.g k 0) x:=fun _=>rfl
  rw[hs]
  simp only[ay.step,ay.d5,apL,jC,jD]
  cases t with
  |lf kd n v=>
   have hlf:=KT hz (ay.g k 0) kd n v (.l []) (fun xs=>ay.d3 (ay.g k 0))
   have hk:kd=0∨kd=1∨kd=2:=by
    rcases hok with h|h
    ·rcases h.2 with ⟨h,_⟩|⟨h,_⟩
     ·exact .inr (.inl h)
     ·exact .inr (.inr h)
    ·simp only[Tr.lf.injEq] at h;exact .inl h.1
   simp only[Tr.enc,C.wT,jR,C.P_p,jC,C.I_i,Tr.meets]
   rcases hk with rfl|rfl|rfl
   ·simp[ay.d4]
   ·simp only[ay.d4,jJ,apL,jC,jD,C.B_b,C.L_l,jW,hlf,show (((1:Nat):Int)==1)=true from rfl,jR]
    cases ms.any (oV 1 n v)<;>simp[ay.d3]
   ·simp only[ay.d4,jJ,apL,jC,jD,C.B_b,C.L_l,jW,hlf,show (((2:Nat):Int)==1)=false from rfl,show (((2:Nat):Int)==2)=true from rfl,jR,jS]
    cases ms.any (oV 2 n v)<;>simp[ay.d3]
  |un t=>
   simp only[Tr.depth] at h
   have hw:t.Ok:=by
    rcases hok with h|h
    ·exact .inl h
    ·simp at h
   have ih:=xH k t (by omega) hw
   simp[Tr.enc,ay.d4,ih,ad,Tr.meets]
  |bn kd a b=>
   simp only[Tr.depth] at h
   have hw:(kd=4∨kd=5)/\a.Ok/\b.Ok:=by
    rcases hok with h|h
    ·exact ⟨h.1,.inl h.2.1,.inl h.2.2⟩
    ·simp at h
   have iha:=xH k a (by omega) hw.2.1
   have ihb:=xH k b (by omega) hw.2.2
   rcases hw.1 with rfl|rfl
   ·cases ha:a.meets ms<;>simp[Tr.enc,ay.d4,iha,ihb,ad,Tr.meets,ha]
   ·cases ha:a.meets ms<;>simp[Tr.enc,ay.d4,iha,ihb,ad,Tr.meets,ha]
theorem xK {N K:List (List C)} (hN:N.length<=1048576) (hK:K.length<=1048576):∀(k:Nat) (t:Tr) (o:Nat) (r r':List (List C)),t.depth<k->t.Ok->N.drop o=t.flat++r->K.drop o=t.kids o++r'->
  bm.g k 0 [.l N,.l K,.i (o+t.sz-1:Nat),.l (ms.map sE)]=some [.b (t.meets ms)]
 |0,t,o,r,r',h,_,_,_=>by omega
 |k+1,t,o,r,r',h,hok,hd,hd'=>by
  have hs:∀x,bm.g (k+1) 0 x=bm.step (bm.g k 0) x:=fun _=>rfl
  rw[hs]
  simp only[bm.step,bm.d4,apL,jC,jD,C.I_i,C.L_l,jY]
  cases t with
  |lf kd n v=>
   obtain ⟨h1,h2,_⟩:=drop_cons (show N.drop o=node kd n v 0::r from hd)
   have hlf:=KP hz (bm.g k 0) kd n v (.i ((0:Nat):Int)) (fun xs=>bm.d3 (bm.g k 0))
   have e:o+(Tr.lf kd n v).sz-1=o:=by simp[Tr.sz]
   have hg:N.getD o []=node kd n v 0:=by rw[Mm,Mg h1,h2];rfl
   have e1:((o:Int)<(N.length:Int)):=by omega
   have hk:kd=0∨kd=1∨kd=2:=by
    rcases hok with h|h
    ·rcases h.2 with ⟨h,_⟩|⟨h,_⟩
     ·exact .inr (.inl h)
     ·exact .inr (.inr h)
    ·simp only[Tr.lf.injEq] at h;exact .inl h.1
   simp only[e,hg,node,jC,jD,C.I_i,e1,Mt,jR,jX,Tr.meets]
   rcases hk with rfl|rfl|rfl
   ·simp
   ·simp only[show (((1:Nat):Int)==0)=false from rfl,show (((1:Nat):Int)==3)=false from rfl,show (((1:Nat):Int)==4)=false from rfl,show (((1:Nat):Int)==5)=false from rfl,jS,hlf]
    cases ms.any (oV 1 n v)<;>simp[bm.d3]
   ·simp only[show (((2:Nat):Int)==0)=false from rfl,show (((2:Nat):Int)==3)=false from rfl,show (((2:Nat):Int)==4)=false from rfl,show (((2:Nat):Int)==5)=false from rfl,jS,hlf]
    cases ms.any (oV 2 n v)<;>simp[bm.d3]
  |un t=>
   simp only[Tr.depth] at h
   have hw:t.Ok:=by
    rcases hok with h|h
    ·exact .inl h
    ·simp at h
   have hn:N.drop o=t.flat++(node 3 [] [] 1::r):=by rw[hd];simp[Tr.flat]
   have hk:K.drop o=t.kids o++([.l [[.i (o+t.sz-1:Nat)]]]::r'):=by rw[hd'];simp[Tr.kids]
   have ih:=xK hN hK k t o _ _ (by omega) hw hn hk
   obtain ⟨h1,h2⟩:=jy hn
   obtain ⟨h3,h4⟩:=jy hk
   rw[t.cq] at h1
   rw[t.cR] at h3
   have h2:N[o+t.sz]=node 3 [] [] 1:=by simp only[t.cq] at h2;exact h2
   have h4:K[o+t.sz]=[.l [[.i (o+t.sz-1:Nat)]]]:=by simp only[t.cR] at h4;exact h4
   have e:o+(Tr.un t).sz-1=o+t.sz:=by simp[Tr.sz]
   have hg:N.getD (o+t.sz) []=node 3 [] [] 1:=by rw[Mm,Mg h1,h2];rfl
   have hg':K.getD (o+t.sz) []=[.l [[.i (o+t.sz-1:Nat)]]]:=by rw[Mm,Mg h3,h4];rfl
   have e1:(((o+t.sz:Nat):Int)<(N.length:Int)):=by omega
   have e2:(((o+t.sz:Nat):Int)<(K.length:Int)):=by omega
   simp only[e,hg,hg',node,jC,jD,C.I_i,C.L_l,e1,e2,Mt,jR,jX,ih,ad,jI,C.B_b,Tr.meets]
   simp
  |bn kd a b=>
   simp only[Tr.depth] at h
   have hw:(kd=4∨kd=5)/\a.Ok/\b.Ok:=by
    rcases hok with h|h
    ·exact ⟨h.1,.inl h.2.1,.inl h.2.2⟩
    ·simp at h
   have hn:N.drop o=a.flat++(b.flat++(node kd [] [] 2::r)):=by rw[hd];simp[Tr.flat]
   have hn2:N.drop (o+a.sz)=b.flat++(node kd [] [] 2::r):=by rw[←List.drop_drop,hn,←a.cq];simp
   have hk:K.drop o=a.kids o++(b.kids (o+a.sz)++([.l [[.i (o+a.sz-1:Nat)],[.i (o+a.sz+b.sz-1:Nat)]]]::r')):=by rw[hd'];simp[Tr.kids]
   have hk2:K.drop (o+a.sz)=b.kids (o+a.sz)++([.l [[.i (o+a.sz-1:Nat)],[.i (o+a.sz+b.sz-1:Nat)]]]::r'):=by
    rw[←List.drop_drop,hk,←a.cR o];simp
   have iha:=xK hN hK k a o _ _ (by omega) hw.2.1 hn hk
   have ihb:=xK hN hK k b (o+a.sz) _ _ (by omega) hw.2.2 hn2 hk2
   obtain ⟨h1,h2⟩:=jy hn2
   obtain ⟨h3,h4⟩:=jy hk2
   rw[b.cq] at h1
   rw[b.cR] at h3
   have h2:N[o+a.sz+b.sz]=node kd [] [] 2:=by simp only[b.cq] at h2;exact h2
   have h4:K[o+a.sz+b.sz]=[.l [[.i (o+a.sz-1:Nat)],[.i (o+a.sz+b.sz-1:Nat)]]]:=by simp only[b.cR] at h4;exact h4
   have e:o+(Tr.bn kd a b).sz-1=o+a.sz+b.sz:=by simp only[Tr.sz];omega
   have hg:N.getD (o+a.sz+b.sz) []=node kd [] [] 2:=by rw[Mm,Mg h1,h2];rfl
   have hg':K.getD (o+a.sz+b.sz) []=[.l [[.i (o+a.sz-1:Nat)],[.i (o+a.sz+b.sz-1:Nat)]]]:=by rw[Mm,Mg h3,h4];rfl
   have e1:(((o+a.sz+b.sz:Nat):Int)<(N.length:Int)):=by omega
   have e2:(((o+a.sz+b.sz:Nat):Int)<(K.length:Int)):=by omega
   simp only[e,hg,hg',node,jC,jD,C.I_i,C.L_l,e1,e2,Mt,jR,jX,iha,ihb,ad,jI,C.B_b,Tr.meets]
   rcases hw.1 with rfl|rfl
   ·cases a.meets ms<;>simp
   ·cases a.meets ms<;>simp
end
end Go.Ev
namespace Go.Ev
def PR.tr:PR->Option Tr
 |.err _=>none
 |.all=>some (.lf 0 [] [])
 |.tree t=>some t
theorem PR.FP {p:PR} {t:Tr} (h:p.tr=some t):p.nodes=t.flat/\p.ptr=t.enc/\p.code=0:=by
 cases p with
 |err n=>simp[PR.tr] at h
 |all=>simp only[PR.tr,Mj] at h;subst h;exact ⟨rfl,rfl,rfl⟩
 |tree u=>simp only[PR.tr,Mj] at h;subst h;exact ⟨rfl,rfl,rfl⟩
theorem PR.FT {p:PR} (h:p.tr=none):∃n,p=.err n:=by
 cases p with
 |err n=>exact ⟨n,rfl⟩
 |all=>simp[PR.tr] at h
 |tree u=>simp[PR.tr] at h
theorem Fx (s:Str) {n:Nat} (h:pp s=.err n):n≠0:=by
 unfold pp at h
 split at h
 ·simp at h;omega
 ·split at h
  ·simp at h
  ·split at h
   ·split at h
    ·simp at h
    ·simp at h;omega
   ·simp at h;omega
theorem Km {s:Str} {t:Tr} (h:(pp s).tr=some t):t.Ok/\t.sz<=200/\t.depth<=20:=by
 cases hp:pp s with
 |err n=>rw[hp] at h;simp[PR.tr] at h
 |all=>
  rw[hp] at h
  simp only[PR.tr,Mj] at h
  subst h
  exact ⟨.inr rfl,by simp[Tr.sz],by simp[Tr.depth]⟩
 |tree u=>
  rw[hp] at h
  simp only[PR.tr,Mj] at h
  subst h
  obtain ⟨h1,h2,h3⟩:=I6 hp
  exact ⟨.inl h1,h2,h3⟩
theorem Gs:aO [.l (Tr.lf 0 [] []).flat]=some [.b true]:=by
 have w0:w64 1=1:=aN (by omega) (by omega)
 have z0:within 0 0 5=true:=rfl
 have h0:apn 2 aO.d4 [.i 0,.l (Tr.lf 0 [] []).flat]=some (.again [.i 1,.l (Tr.lf 0 [] []).flat]):=by
  simp[aO.d4,aO.d3,aO.d2,aO.d1,Tr.flat,node,fU,z0,ad,emp,fm,w0]
 have h1:apn 2 aO.d4 [.i 1,.l (Tr.lf 0 [] []).flat]=some (.brk 0 []):=by
  simp[aO.d4,Tr.flat]
 have hk:=jU (.lf 0 [] []) (by simp[Tr.sz])
 have e:¬(((Tr.lf 0 [] []).flat.length:Int)>400):=by simp[Tr.flat]
 simp only[aO,aO.d6,apL,jC,C.L_l,e,Mu,jS,hk,call2,jI,C.B_b,jZ]
 rw[aD h0,aR h1]
 simp[aO.d5]
theorem Eb (t:Tr) (ht:t.sz<=400) (ho:t.Ok):aO [.l t.flat]=some [.b true]:=by
 rcases ho with h|rfl
 ·exact xb t ht h
 ·exact Gs
theorem uP (t:Tr) (ht:t.sz<=400) (ho:t.Ok):fW [.l t.flat]=some [.b (decide (t.depth<=20))]:=by
 have hd:=t.mX
 have hp:=t.sT
 have hF:=mr
 have hw1:w64 ((t.flat.length:Int)-1)=((0+t.sz-1:Nat):Int):=by rw[t.cq,aN (by omega) (by omega)];omega
 have hn:bH [.l (t.kids 0),.i (0+t.sz-1:Nat)]=some [.i (t.depth:Nat)]:=
  zL (K:=t.kids 0) (by rw[t.cR];omega) jd t 0 [] (by omega) (by simp only[big];omega) (by simp)
 simp only[fW,fW.d1,apL,jC,jD,Eb t ht ho,ad,call2,jI,C.B_b,jZ,jS,jU t (by omega),C.L_l,hw1,hn,C.I_i,jV]
 have:decide ((t.depth:Int)<=20)=decide (t.depth<=20):=by
  rw[decide_eq_decide];omega
 rw[this]
def CL (z:Str):Str:=bs #[122,111,110,101,61]++z
def qa (b:Bt):List Str:=b.marks++[CL b.zone]
def uE (s:Str) (b:Bt):Bool:=match (pp s).tr with
 |some t=>t.meets (qa b)
 |none=>false
theorem Gr (z:Str):(CL z).size=5+z.size:=by
 unfold CL
 rw[MK];rfl
theorem tt {b:Bt} (hb:dR b=true):b.marks.length<=10/\b.zone.size<=20:=by
 simp only[dR,sk,bf,within,Mk,Ms] at hb
 omega
theorem AV {b:Bt} (hz:b.Sz 1048576) (hb:dR b=true):yu 1048576 (qa b):=by
 obtain ⟨h1,h2⟩:=tt hb
 refine ⟨by simp[qa];omega,fun s hs=>?_⟩
 rcases MO.1 hs with hs|hs
 ·exact hz.2.2.2 s hs
 ·simp at hs;subst hs;rw[Gr];omega
theorem xr (t:Tr) (ht:t.sz<=400) (ho:t.Ok) (hd:t.depth<=20) {ms:List Str} (hz:yu 1048576 ms):gZ [.l t.flat,.l (ms.map sE)]=some [.b (t.meets ms)]:=by
 have hF:=mr
 have hp:=t.sT
 have hw1:w64 ((t.flat.length:Int)-1)=((0+t.sz-1:Nat):Int):=by rw[t.cq,aN (by omega) (by omega)];omega
 have hm:bm [.l t.flat,.l (t.kids 0),.i (0+t.sz-1:Nat),.l (ms.map sE)]=some [.b (t.meets ms)]:=
  xK hz (by rw[t.cq];omega) (by rw[t.cR];omega) jd t 0 [] [] (by omega) ho (by simp) (by simp)
 simp only[gZ,gZ.d1,apL,jC,jD,uP t ht ho,hd,Mt,ad,call2,jI,C.B_b,jZ,jS,jU t (by omega),C.L_l,hw1,hm,jV]
theorem sG (s:Str) (b:Bt) (hs:s.size<=1048576) (hz:b.Sz 1048576) (hb:dR b=true):iD (.s s::b.e)=some [.b (uE s b)]:=by
 obtain ⟨z1,z2⟩:=tt hb
 have hm:lh b.e=some [.l ((qa b).map sE)]:=by
  have e1:b.marks.length<=4294967296:=by omega
  have e2:(bs #[122,111,110,101,61]).size+b.zone.size<=4294967296:=by
   have:(bs #[122,111,110,101,61]).size=5:=rfl
   omega
  have e3:b.marks.length+1<=4294967296:=by omega
  simp[lh,lh.d1,Bt.e,e1,e2,e3,qa,CL,sE]
 simp only[Bt.e] at hm
 simp only[iD,iD.d1,Bt.e,apL,jC,jD,qg s hs,call2,jI,C.I_i,uE]
 cases ht:(pp s).tr with
 |none=>
  obtain ⟨n,hn⟩:=PR.FT ht
  have hne:=Fx s hn
  have e:((((PR.err n).code:Nat):Int)==0)=false:=by rw[Ns];simp only[PR.code];omega
  rw[hn]
  simp only[e,jS,jV]
 |some t=>
  obtain ⟨h1,h2,h3⟩:=PR.FP ht
  obtain ⟨o1,o2,o3⟩:=Km ht
  have hp:=xr t (by omega) o1 o3 (AV hz hb)
  rw[h1,h3]
  simp[hm,ad,hp]
theorem D9 (s:Str) (b:Bt) (hs:s.size<=1048576) (hz:b.Sz 1048576) (hb:dR b=true):nx (.s s::b.e)=some [.b (uE s b)]:=by
 obtain ⟨z1,z2⟩:=tt hb
 have hF:=mr
 have e1:b.marks.length<=4294967296:=by omega
 have e2:(bs #[122,111,110,101,61]).size+b.zone.size<=4294967296:=by
  have:(bs #[122,111,110,101,61]).size=5:=rfl
  omega
 have e3:b.marks.length+1<=4294967296:=by omega
 have hmb:b.marks.map sE++[[.s (bs #[122,111,110,101,61]++b.zone)]]=(qa b).map sE:=by simp[qa,CL,sE]
 simp only[nx,nx.d1,Bt.e,apL,jC,jD,qH s hs,call2,jI,C.I_i,C.L_l,C.S_s,jW,rows,hmb,uE]
 cases ht:(pp s).tr with
 |none=>
  obtain ⟨n,hn⟩:=PR.FT ht
  have hne:=Fx s hn
  have e:((((PR.err n).code:Nat):Int)==0)=false:=by rw[Ns];simp only[PR.code];omega
  rw[hn]
  simp only[e,jS,jV]
 |some t=>
  obtain ⟨h1,h2,h3⟩:=PR.FP ht
  obtain ⟨o1,o2,o3⟩:=Km ht
  have hm:ay [t.enc,.l ((qa b).map sE)]=some [.b (t.meets (qa b))]:=xH (AV hz hb) jd t (by omega) o1
  rw[h2,h3]
  simp[e1,e2,e3,hm,ad]
end Go.Ev
namespace Go.Ev
def fJ (f:Fl) (nm:Str):Str:=if bIx f nm<0 then mkS [] else match f.bts[(bIx f nm).toNat]? with
 |some b=>b.zone
 |none=>mkS []
theorem pA (f:Fl) (nm:Str):bIx f nm<0∨∃k,∃h:k<f.bts.length,bIx f nm=(k:Nat)/\sEq f.bts[k].name nm=true:=by
 rcases kV (fun x:Bt=>sEq x.name nm) f.bts 0 with h|⟨k,hk,h1,h2⟩
 ·exact .inl h
 ·exact .inr ⟨k,hk,by rw[←My k];exact h1,h2⟩
theorem qK (f:Fl) (nm:Str):cIx f nm<0∨∃k,∃h:k<f.cps.length,cIx f nm=(k:Nat)/\sEq f.cps[k].name nm=true:=by
 rcases kV (fun x:Cp=>sEq x.name nm) f.cps 0 with h|⟨k,hk,h1,h2⟩
 ·exact .inl h
 ·exact .inr ⟨k,hk,by rw[←My k];exact h1,h2⟩
theorem oo (f:Fl) (nm:Str) (hz:f.Sz 1048576):hP (f.e++[.s nm])=some [.s (fJ f nm)]:=by
 have hb:=ko f nm hz.1.1
 simp only[Fl.e,jA,jB] at hb
 simp only[hP,hP.d1,Fl.e,jA,jB,apL,jC,jD,hb,ad,jI,C.I_i,C.L_l,jW,fJ]
 rcases pA f nm with h|⟨k,hk,h1,_⟩
 ·simp[h,fm]
 ·have e5:¬((k:Int)<0):=by omega
  have e6:((k:Int)<(f.bts.length:Int)):=by omega
  have hg:f.bts[k].e.getD 1 .nil=.s f.bts[k].zone:=rfl
  simp only[h1,e5,e6,Mt,Mu,jR,jS,jX,jY,getD_map' Bt.e hk,hg,if_false,Mg hk,jV]
theorem Ep (f:Fl) (nm:Str) (hz:f.Sz 1048576):qc (f.e++[.s nm])=some [.s (fJ f nm)]:=by
 have hb:=jj f nm hz.1.1
 simp only[Fl.e,jA,jB] at hb
 simp only[qc,qc.d1,Fl.e,jA,jB,apL,jC,jD,hb,ad,jI,C.I_i,C.L_l,jW,fJ]
 rcases pA f nm with h|⟨k,hk,h1,_⟩
 ·have e:¬(bIx f nm≥0):=by omega
  simp[h,e,fm]
 ·have e5:¬((k:Int)<0):=by omega
  have e7:((k:Int)≥0):=by omega
  have e6:((k:Int)<(f.bts.length:Int)):=by omega
  have hg:f.bts[k].e.getD 1 .nil=.s f.bts[k].zone:=rfl
  simp only[h1,e5,e6,e7,Mt,jR,jX,jY,getD_map' Bt.e hk,hg,if_false,Mg hk,jV]
def oth (c x:Cp):Bool:=!sEq x.name c.name&&!sEq x.at_ (mkS [])
def sB (l:List Lk) (b:Bt):Nat->Int
 |0=>0
 |i+1=>match l[i]? with
  |some x=>bif uE x.sel b then w64 (sB l b i+x.w) else sB l b i
  |none=>sB l b i
def ry (f:Fl) (c:Cp) (b:Bt):Nat->Nat
 |0=>0
 |i+1=>match f.cps[i]? with
  |some x=>bif oth c x&&(sEq x.svc c.svc&&sEq (fJ f x.at_) b.zone) then ry f c b i+1 else ry f c b i
  |none=>ry f c b i
def nd (f:Fl) (c:Cp) (b:Bt):Nat->Nat
 |0=>0
 |i+1=>match f.cps[i]? with
  |some x=>bif oth c x&&(sEq x.svc c.svc&&sEq x.at_ b.name) then nd f c b i+1 else nd f c b i
  |none=>nd f c b i
def wU (f:Fl) (c:Cp) (b:Bt):Nat->Int
 |0=>w64 (b.room-c.room)
 |i+1=>match f.cps[i]? with
  |some x=>bif oth c x&&sEq x.at_ b.name then w64 (wU f c b i-x.room) else wU f c b i
  |none=>wU f c b i
theorem Ea (f:Fl) (c:Cp) (b:Bt):∀i,ry f c b i<=i
 |0=>Mp _
 |i+1=>by
  have:=Ea f c b i
  simp only[ry]
  split
  ·rename_i x _
   cases oth c x&&(sEq x.svc c.svc&&sEq (fJ f x.at_) b.zone)<;>simp<;>omega
  ·omega
theorem Br (f:Fl) (c:Cp) (b:Bt):∀i,nd f c b i<=i
 |0=>Mp _
 |i+1=>by
  have:=Br f c b i
  simp only[nd]
  split
  ·rename_i x _
   cases oth c x&&(sEq x.svc c.svc&&sEq x.at_ b.name)<;>simp<;>omega
  ·omega
def yM (f:Fl) (c:Cp) (b:Bt):List C:=[.i (sB c.likes b c.likes.length),.i (ry f c b f.cps.length:Nat),.i (nd f c b f.cps.length:Nat),.i (wU f c b f.cps.length)]
section
variable {f:Fl} (hz:f.Sz 1048576) {c:Cp} (hc:c.Sz 1048576) {b:Bt} (hb:b.Sz 1048576) (hbo:dR b=true)
include hz hc hb hbo
theorem u7:bq (f.e++c.e++b.e)=some (yM f c b):=by
 have hl:c.likes.length<big:=by have:=hc.2.2.2.2.2.2.1;simp only[big];omega
 have hlc:f.cps.length<big:=by have:=hz.2.2.1;simp only[big];omega
 have L1:=bQ (body:=apn 31 bq.d1) (S:=fun i=>[C.i (i:Nat)]++f.e++c.e++b.e++[C.i 0,C.i 0,C.i 0,C.i 0,C.i (sB c.likes b i),C.i 0,C.i 0,C.i (w64 (b.room-c.room))]) (n:=c.likes.length) (b:=0) (ys:=f.e++c.e++b.e++[C.i 0,C.i 0,C.i 0,C.i 0,C.i (sB c.likes b c.likes.length),C.i 0,C.i 0,C.i (w64 (b.room-c.room))])
  (fun i hi=>by
   have hsz:=hc.2.2.2.2.2.2.2 _ (Mq hi)
   have e3:((i:Int)<(c.likes.length:Int)):=by omega
   have hsel:=sG c.likes[i].sel b hsz hb hbo
   simp only[Bt.e] at hsel
   have g0:c.likes[i].e.getD 0 .nil=.s c.likes[i].sel:=rfl
   have g1:c.likes[i].e.getD 1 .nil=.i c.likes[i].w:=rfl
   simp only[Fl.e,Cp.e,Bt.e,jA,jB,apL,jC,jD,bq.d1,C.I_i,C.L_l,jW,jY,getD_map' Lk.e hi,g0,g1,e3,Mt,jR,jX,w1 hi hl,hsel,ad,jI,C.B_b,sB,Mg hi]
   cases uE c.likes[i].sel b<;>simp)
  (by simp[bq.d1,Fl.e,Cp.e,Bt.e]) c.likes.length 0 rfl
 have L2:=bQ (body:=apn 31 bq.d5) (S:=fun i=>[C.i (i:Nat)]++f.e++c.e++b.e++[C.i 0,C.i 0,C.i 0,C.i 0,C.i (sB c.likes b c.likes.length),C.i ((ry f c b i:Nat):Int),C.i ((nd f c b i:Nat):Int),C.i (wU f c b i)]) (n:=f.cps.length) (b:=2) (ys:=[C.i 0,C.i 0,C.i 0,C.i 0]++yM f c b)
  (fun i hi=>by
   have e3:((i:Int)<(f.cps.length:Int)):=by omega
   have hw1:=ua (n:=ry f c b i) (by have:=Ea f c b i;omega)
   have hw2:=ua (n:=nd f c b i) (by have:=Br f c b i;omega)
   have hzo:=oo f f.cps[i].at_ hz
   simp only[Fl.e,jA,jB] at hzo
   have q1:(f.cps[i].name.toList==c.name.toList)=sEq f.cps[i].name c.name:=rfl
   have q2:(f.cps[i].at_.toList==(bs #[]).toList)=sEq f.cps[i].at_ (mkS []):=rfl
   have q3:(f.cps[i].at_.toList==b.name.toList)=sEq f.cps[i].at_ b.name:=rfl
   have q4:(f.cps[i].svc.toList==c.svc.toList)=sEq f.cps[i].svc c.svc:=rfl
   have q5:((fJ f f.cps[i].at_).toList==b.zone.toList)=sEq (fJ f f.cps[i].at_) b.zone:=rfl
   simp only[Fl.e,Cp.e,Bt.e,jA,jB,apL,jC,jD,bq.d5,C.I_i,C.L_l,C.S_s,jW,jY,getD_map' Cp.e hi,e3,Mt,jR,jX]
   simp only[Cp.e,jC,jD,C.S_s,C.I_i,q1,q2,q3,ry,nd,wU,Mg hi,oth]
   cases sEq f.cps[i].name c.name with
   |true=>simp[bq.d4,w1 hi hlc]
   |false=>
    cases sEq f.cps[i].at_ (mkS []) with
    |true=>simp[bq.d4,w1 hi hlc]
    |false=>
     cases h3:sEq f.cps[i].at_ b.name<;>cases h4:sEq f.cps[i].svc c.svc<;>cases h5:sEq (fJ f f.cps[i].at_) b.zone<;>
      simp only[ja,jZ,jR,jS,Mx,Nk,Bool.and_true,Nl,jJ,jC,jD,bq.d3,bq.d2,C.S_s,C.I_i,q3,q4,q5,h3,h4,h5,hzo,ad,jI,aq,apL,bq.d4,w1 hi hlc,hw1,hw2])
  (by simp[bq.d5,Fl.e,Cp.e,Bt.e,yM]) f.cps.length 0 rfl
 simp only[Fl.e,Cp.e,Bt.e,jA,jB,Mr,sB,ry,nd,wU,yM] at L1 L2
 simp only[bq,bq.d8,Fl.e,Cp.e,Bt.e,jA,jB,apL,jC,jD,C.I_i]
 rw[L1]
 simp only[aq,apL,jC,jD,bq.d7]
 rw[L2]
 simp[bq.d6,yM]
end
end Go.Ev
namespace Go.Ev
theorem Eu {f:Fl} (h:bl f=true):∀b,b∈f.bts->dR b=true:=by
 intro b hb
 obtain ⟨i,hi,rfl⟩:=List.getElem_of_mem hb
 simp only[bl,Mk] at h
 have:=(cj _ _ _).1 h.2.2.2.2.2.1 i (Nat.zero_le _) (by omega)
 simp only[btA,Mg hi,Mk] at this
 exact this.1
theorem G8 {f:Fl} (h:bl f=true):∀c,c∈f.cps->kA c=true:=by
 intro b hb
 obtain ⟨i,hi,rfl⟩:=List.getElem_of_mem hb
 simp only[bl,Mk] at h
 have:=(cj _ _ _).1 h.2.2.2.2.1 i (Nat.zero_le _) (by omega)
 simp only[cpA,Mg hi,Mk] at this
 exact this.1
structure VB (f:Fl):Prop where
 n60:f.cps.length<=60
 cb:∀x,x∈f.cps->(0<=x.room/\x.room<=1000)/\(0<=x.hold/\x.hold<=1000)/\(0<=x.apart/\x.apart<=2)/\(0<=x.rank/\x.rank<=100)/\(0<=x.born/\x.born<=1000000)
 bb:∀b,b∈f.bts->dR b=true
theorem wq {f:Fl} (h:VB f):∀b,b∈f.bts->dR b=true:=h.bb
theorem fB {f:Fl} (h:bl f=true):VB f:=by
 refine ⟨?_,fun x hx=>?_,Eu h⟩
 ·simp only[bl,Mk,Ms] at h
  exact h.2.2.1
 ·have:=G8 h x hx
  simp only[kA,within,Mk,Ms] at this
  exact ⟨this.2.2.2.1,this.2.2.2.2.1,this.2.2.2.2.2.2.1,this.2.1,this.2.2.1⟩
section
variable {f:Fl} (hz:f.Sz 1048576) {c:Cp} (hc:c.Sz 1048576) {b:Bt} (hb:b.Sz 1048576) (hbo:dR b=true)
include hz hc hb hbo
end
section
variable {f:Fl} (hz:f.Sz 1048576) (cn bn_:Str)
include hz
end
end Go.Ev
namespace Go.Ev
def HS {α:Type} (p:α->Bool) (l:List α) (j:Nat):Bool:=match l[j]? with|some x=>p x|none=>false
theorem xW {α:Type} (p:α->Bool) {l:List α} {j:Nat} (h:j<l.length):HS p l j=p l[j]:=by simp[HS,h]
theorem Kw {α:Type} (p:α->Bool) (l:List α):aA (fun j=>!HS p l j) 0 l.length=!l.any p:=by
 rw[←Bool.not_not (b:=aA _ _ _)]
 congr 1
 rw[Bool.eq_iff_iff,Du,Nh]
 constructor
 ·rintro ⟨j,_,h1,h2⟩
  have hj:j<l.length:=by omega
  rw[xW p hj] at h2
  exact ⟨_,Mq hj,h2⟩
 ·rintro ⟨x,hx,h⟩
  obtain ⟨j,hj,rfl⟩:=List.getElem_of_mem hx
  exact ⟨j,Nat.zero_le _,by omega,by rw[xW p hj];exact h⟩
def mq {α:Type} (p:α->Bool) (l:List α) (i:Nat):Bool:=(l.take i).any p
theorem Bo {α:Type} (p:α->Bool) {l:List α} {i:Nat} (h:i<l.length):mq p l (i+1)=(mq p l i||p l[i]):=by
 unfold mq
 rw[MN h,List.any_append]
 simp only[List.any_cons,List.any_nil,Bool.or_false]
theorem Dn {α:Type} (p:α->Bool) (l:List α):mq p l l.length=l.any p:=by simp[mq]
def h9 {α:Type} (p:α->Bool) (l:List α) (i:Nat):Nat:=(l.take i).countP p
theorem wG {α:Type} (p:α->Bool) {l:List α} {i:Nat} (h:i<l.length):h9 p l (i+1)=h9 p l i+(bif p l[i] then 1 else 0):=by
 simp only[h9,MN h,List.countP_append,List.countP_cons,List.countP_nil]
 cases p l[i]<;>simp
theorem F6 {α:Type} (p:α->Bool) (l:List α) (i:Nat):h9 p l i<=i:=by
 have:=List.countP_le_length (p:=p) (l:=l.take i)
 simp only[h9,ME] at*
 omega
def dr {α:Type} (p:α->Bool) (g:α->Int) (l:List α) (i:Nat):Int:=((l.take i).map fun x=>bif p x then g x else 0).sum
theorem pg {α:Type} (p:α->Bool) (g:α->Int) {l:List α} {i:Nat} (h:i<l.length):dr p g l (i+1)=dr p g l i+(bif p l[i] then g l[i] else 0):=by
 unfold dr
 rw[MN h,MZ,List.sum_append]
 simp only[MD,MC,List.sum_cons,List.sum_nil,Int.add_zero]
theorem mA {α:Type} (p:α->Bool) (g:α->Int) {l:List α} (hl:∀x,x∈l->0<=g x/\g x<=1000):∀i,i<=l.length->0<=dr p g l i/\dr p g l i<=1000*i
 |0,_=>by simp[dr]
 |i+1,h=>by
  have ih:=mA p g hl i (by omega)
  have h2:=hl _ (Mq (show i<l.length by omega))
  rw[pg p g (by omega)]
  cases p l[i]<;>simp only[jR,jS]<;>omega
def rT (f:Fl) (c:Cp) (b:Bt) (x:Cp):Bool:=oth c x&&(sEq x.svc c.svc&&(sEq x.at_ b.name&&(x.apart !=0||c.apart !=0)||sEq (fJ f x.at_) b.zone&&(x.apart==2||c.apart==2)))
def rX (f:Fl) (c:Cp) (b:Bt) (x:Cp):Bool:=oth c x&&(sEq x.svc c.near&&sEq (fJ f x.at_) b.zone)
def tQ (c:Cp) (s:Str) (x:Cp):Bool:=oth c x&&sEq x.svc s
def Ae (f:Fl) (c:Cp) (b:Bt):Bool:=!sEq c.near (mkS [])&&(!f.cps.any (rX f c b)&&(f.cps.any (tQ c c.near)||!sEq c.near c.svc))
def onP (c:Cp) (b:Bt) (x:Cp):Bool:=oth c x&&sEq x.at_ b.name
def eL (f:Fl) (c:Cp) (b:Bt) (o:Bool):Nat:=
 bif b.shut&&!o then 1 else bif !sEq c.fixed (mkS [])&&!sEq c.fixed b.name then 2 else bif !uE c.sel b then 3 else bif f.cps.any (rT f c b) then 4 else bif Ae f c b then 5 else
 bif decide (10<=h9 (onP c b) f.cps f.cps.length) then 6 else bif decide (b.room<dr (onP c b) Cp.room f.cps f.cps.length+c.room) then 7 else bif decide (b.hold<dr (onP c b) Cp.hold f.cps f.cps.length+c.hold) then 8 else 0
theorem BV {b:Bt} (h:dR b=true) (s:Str) (hs:sEq s b.name=true):sEq s (mkS [])=false:=by
 cases h0:sEq s (mkS []) with
 |false=>rfl
 |true=>
  have e1:s=b.name:=by rw[dc] at hs;exact hs
  have e2:s=mkS []:=by rw[dc] at h0;exact h0
  rw[e2] at e1
  simp only[dR,Mk] at h
  have h:=h.1
  rw[←e1] at h
  exact absurd h (by decide)
theorem lr {f:Fl} (h:VB f):∀x,x∈f.cps->0<=x.room/\x.room<=1000:=fun x hx=>(h.cb x hx).1
theorem ly {f:Fl} (h:VB f):∀x,x∈f.cps->0<=x.hold/\x.hold<=1000:=fun x hx=>(h.cb x hx).2.1
theorem vg {f:Fl} (h:VB f):∀x,x∈f.cps->0<=x.apart/\x.apart<=2:=fun x hx=>(h.cb x hx).2.2.1
theorem wH {f:Fl} (h:VB f):f.cps.length<=60:=h.n60
end Go.Ev
namespace Go.Ev
section
variable {f:Fl} (hz:f.Sz 1048576) {c:Cp} (hc:c.Sz 1048576) {b:Bt} (hb:b.Sz 1048576) (hbo:dR b=true)
include hz hc hb hbo
theorem xn:bz (f.e++c.e++b.e)=some [.b (f.cps.any (rT f c b))]:=by
 have hlc:f.cps.length<big:=by have:=hz.2.2.1;simp only[big];omega
 have h:=dz (body:=apn 23 bz.d3) (S:=fun i=>[C.i (i:Nat)]++f.e++c.e++b.e) (p:=fun j=>!HS (rT f c b) f.cps j) (n:=f.cps.length) (b:=0) (ys:=[]) (r:=[.b true])
  (fun i hi=>by
   have e3:((i:Int)<(f.cps.length:Int)):=by omega
   have hzo:=oo f f.cps[i].at_ hz
   simp only[Fl.e,jA,jB] at hzo
   have q1:(f.cps[i].name.toList==c.name.toList)=sEq f.cps[i].name c.name:=rfl
   have q2:(f.cps[i].at_.toList==(bs #[]).toList)=sEq f.cps[i].at_ (mkS []):=rfl
   have q3:(f.cps[i].at_.toList==b.name.toList)=sEq f.cps[i].at_ b.name:=rfl
   have q4:(f.cps[i].svc.toList==c.svc.toList)=sEq f.cps[i].svc c.svc:=rfl
   have q5:((fJ f f.cps[i].at_).toList==b.zone.toList)=sEq (fJ f f.cps[i].at_) b.zone:=rfl
   simp only[xW _ hi,rT,oth]
   simp only[Fl.e,Cp.e,Bt.e,jA,jB,apL,jC,jD,bz.d3,C.I_i,C.L_l,C.S_s,jW,jY,getD_map' Cp.e hi,e3,Mt,jR,jX]
   simp only[Cp.e,jC,jD,C.S_s,C.I_i,q1,q2,q3,q4]
   cases sEq f.cps[i].name c.name with
   |true=>simp[bz.d2,w1 hi hlc]
   |false=>
    cases sEq f.cps[i].svc c.svc with
    |false=>simp[bz.d2,w1 hi hlc]
    |true=>
     cases sEq f.cps[i].at_ (mkS []) with
     |true=>simp[bz.d2,w1 hi hlc]
     |false=>
      cases h3:sEq f.cps[i].at_ b.name<;>cases h4:f.cps[i].apart !=0<;>cases h5:c.apart !=0<;>cases h6:sEq (fJ f f.cps[i].at_) b.zone<;>cases h7:f.cps[i].apart==2<;>cases h8:c.apart==2<;>
       simp only[ja,jZ,jR,jS,Mx,Nk,Bool.and_true,Nl,Bool.or_true,Bool.or_false,Nj,Bool.true_or,jJ,wX,re,jC,jD,bz.d1,C.S_s,C.I_i,q5,h6,h7,h8,hzo,ad,jI,aq,apL,bz.d2,w1 hi hlc])
  (by simp[bz.d3,Fl.e,Cp.e,Bt.e]) f.cps.length 0 rfl
 simp only[Fl.e,Cp.e,Bt.e,jA,jB,Mr,Kw] at h
 simp only[bz,bz.d5,Fl.e,Cp.e,Bt.e,jA,jB,apL,jC,jD]
 rw[h]
 cases f.cps.any (rT f c b)<;>simp[bz.d4]
theorem EE:eU (f.e++c.e++b.e)=some [.b (Ae f c b)]:=by
 have hlc:f.cps.length<big:=by have:=hz.2.2.1;simp only[big];omega
 have h:=dz (body:=apn 24 eU.d2) (S:=fun i=>[C.b (mq (tQ c c.near) f.cps i),C.i (i:Nat)]++f.e++c.e++b.e) (p:=fun j=>!HS (rX f c b) f.cps j) (n:=f.cps.length) (b:=0) (ys:=.b (mq (tQ c c.near) f.cps f.cps.length)::c.e) (r:=[.b false])
  (fun i hi=>by
   have e3:((i:Int)<(f.cps.length:Int)):=by omega
   have hzo:=oo f f.cps[i].at_ hz
   simp only[Fl.e,jA,jB] at hzo
   have q1:(f.cps[i].name.toList==c.name.toList)=sEq f.cps[i].name c.name:=rfl
   have q2:(f.cps[i].at_.toList==(bs #[]).toList)=sEq f.cps[i].at_ (mkS []):=rfl
   have q4:(f.cps[i].svc.toList==c.near.toList)=sEq f.cps[i].svc c.near:=rfl
   have q5:((fJ f f.cps[i].at_).toList==b.zone.toList)=sEq (fJ f f.cps[i].at_) b.zone:=rfl
   simp only[xW _ hi,rX,oth,Bo _ hi]
   generalize mq (tQ c c.near) f.cps i=q
   simp only[Fl.e,Cp.e,Bt.e,jA,jB,apL,jC,jD,eU.d2,C.I_i,C.L_l,C.S_s,jW,jY,getD_map' Cp.e hi,e3,Mt,jR,jX,tQ,oth]
   simp only[Cp.e,jC,jD,C.S_s,C.I_i,q1,q2,q4]
   cases sEq f.cps[i].name c.name with
   |true=>simp[eU.d1,w1 hi hlc]
   |false=>
    cases sEq f.cps[i].svc c.near with
    |false=>simp[eU.d1,w1 hi hlc]
    |true=>
     cases sEq f.cps[i].at_ (mkS []) with
     |true=>simp[eU.d1,w1 hi hlc]
     |false=>cases h6:sEq (fJ f f.cps[i].at_) b.zone<;>simp[eU.d1,w1 hi hlc,hzo,ad,q5,h6])
  (by simp[eU.d2,Fl.e,Cp.e,Bt.e]) f.cps.length 0 rfl
 have h0:mq (tQ c c.near) f.cps 0=false:=by simp[mq]
 have q0:(c.near.toList==(bs #[]).toList)=sEq c.near (mkS []):=rfl
 have q1:(c.near.toList==c.svc.toList)=sEq c.near c.svc:=rfl
 simp only[Fl.e,Cp.e,Bt.e,jA,jB,Mr,Kw,h0,Dn] at h
 simp only[eU,eU.d4,Fl.e,Cp.e,Bt.e,jA,jB,apL,jC,jD,C.S_s,q0,Ae]
 rw[h]
 cases sEq c.near (mkS [])<;>cases f.cps.any (rX f c b)<;>cases f.cps.any (tQ c c.near)<;>simp[eU.d3,q1]
theorem ra (hv:VB f) (hr:0<=c.room/\c.room<=1000) (hh:0<=c.hold/\c.hold<=1000) (o:Bool):cF (f.e++c.e++b.e++[.b o])=some [.i (eL f c b o:Nat)]:=by
 have hlc:f.cps.length<big:=by have:=hz.2.2.1;simp only[big];omega
 have h60:=wH hv
 have h:=bQ (body:=apn 27 cF.d2) (S:=fun i=>[C.b o,C.i (dr (onP c b) Cp.room f.cps i+c.room),C.i (dr (onP c b) Cp.hold f.cps i+c.hold),C.i (h9 (onP c b) f.cps i:Nat),C.i (i:Nat)]++f.e++c.e++b.e) (n:=f.cps.length) (b:=0)
  (ys:=[C.b o,C.i (dr (onP c b) Cp.room f.cps f.cps.length+c.room),C.i (dr (onP c b) Cp.hold f.cps f.cps.length+c.hold),C.i (h9 (onP c b) f.cps f.cps.length:Nat)]++f.e++c.e++b.e)
  (fun i hi=>by
   have e3:((i:Int)<(f.cps.length:Int)):=by omega
   have q1:(f.cps[i].name.toList==c.name.toList)=sEq f.cps[i].name c.name:=rfl
   have q3:(f.cps[i].at_.toList==b.name.toList)=sEq f.cps[i].at_ b.name:=rfl
   have b1:=mA (onP c b) Cp.room (lr hv) i (by omega)
   have b2:=mA (onP c b) Cp.hold (ly hv) i (by omega)
   have b3:=F6 (onP c b) f.cps i
   have b4:=lr hv _ (Mq hi)
   have b5:=ly hv _ (Mq hi)
   have w2:w64 (dr (onP c b) Cp.room f.cps i+c.room+f.cps[i].room)=dr (onP c b) Cp.room f.cps i+f.cps[i].room+c.room:=by rw[aN (by omega) (by omega)];omega
   have w3:w64 (dr (onP c b) Cp.hold f.cps i+c.hold+f.cps[i].hold)=dr (onP c b) Cp.hold f.cps i+f.cps[i].hold+c.hold:=by rw[aN (by omega) (by omega)];omega
   have w4:=ua (n:=h9 (onP c b) f.cps i) (by omega)
   have hon:onP c b f.cps[i]=(!sEq f.cps[i].name c.name&&sEq f.cps[i].at_ b.name):=by
    unfold onP oth
    cases h3:sEq f.cps[i].at_ b.name with
    |true=>rw[BV hbo _ h3];simp
    |false=>simp
   simp only[Fl.e,Cp.e,Bt.e,jA,jB,apL,jC,jD,cF.d2,C.I_i,C.L_l,C.S_s,jW,jY,getD_map' Cp.e hi,e3,Mt,jR,jX,pg _ _ hi,wG _ hi,hon]
   simp only[Cp.e,jC,jD,C.S_s,C.I_i,q1,q3]
   cases sEq f.cps[i].name c.name<;>cases sEq f.cps[i].at_ b.name<;>simp[cF.d1,w1 hi hlc,w2,w3,w4])
  (by simp[cF.d2,Fl.e,Cp.e,Bt.e]) f.cps.length 0 rfl
 have z1:dr (onP c b) Cp.room f.cps 0=0:=by simp[dr]
 have z2:dr (onP c b) Cp.hold f.cps 0=0:=by simp[dr]
 have z3:h9 (onP c b) f.cps 0=0:=by simp[h9]
 have hsel:=sG c.sel b hc.2.2.1 hb hbo
 have hT:=xn hz hc hb hbo
 have hF:=EE hz hc hb hbo
 have q0:(c.fixed.toList==(bs #[]).toList)=sEq c.fixed (mkS []):=rfl
 have q1:(c.fixed.toList==b.name.toList)=sEq c.fixed b.name:=rfl
 simp only[Fl.e,Cp.e,Bt.e,jA,jB,Mr,z1,z2,z3,Int.zero_add] at h hsel hT hF
 simp only[cF,cF.d6,Fl.e,Cp.e,Bt.e,jA,jB,apL,jC,jD]
 rw[h]
 have e6:(10:Int)<=((h9 (onP c b) f.cps f.cps.length:Nat):Int)↔10<=h9 (onP c b) f.cps f.cps.length:=by omega
 simp only[aq,apL,jC,jD,cF.d5,C.B_b,eL]
 have fin:∀e:Bool,cF.d3 (.i (dr (onP c b) Cp.room f.cps f.cps.length+c.room)) (.i (dr (onP c b) Cp.hold f.cps f.cps.length+c.hold)) (.i (h9 (onP c b) f.cps f.cps.length:Nat)) (.b e) (.b f.pack) (.l (f.bts.map Bt.e)) (.l (f.svs.map Sv.e)) (.l (f.cps.map Cp.e))
   (.s c.name) (.s c.svc) (.i c.rank) (.i c.born) (.i c.room) (.i c.hold) (.s c.sel) (.l (c.likes.map Lk.e)) (.i c.apart) (.s c.near) (.s c.fixed) (.s c.at_) (.s b.name) (.s b.zone) (.l (b.marks.map sE)) (.i b.room) (.i b.hold) (.b b.shut)=
   some (.ret [.i (((bif e then 2 else bif !uE c.sel b then 3 else bif f.cps.any (rT f c b) then 4 else bif Ae f c b then 5 else
 bif decide (10<=h9 (onP c b) f.cps f.cps.length) then 6 else bif decide (b.room<dr (onP c b) Cp.room f.cps f.cps.length+c.room) then 7 else bif decide (b.hold<dr (onP c b) Cp.hold f.cps f.cps.length+c.hold) then 8 else 0:Nat):Nat):Int)]):=by
  intro e
  simp only[cF.d3,C.B_b,C.I_i,hsel,hT,hF,ad,jI,jC,ge_iff_le,e6,gt_iff_lt]
  cases e
  ·simp only[jS]
   cases uE c.sel b
   ·rfl
   ·simp only[jZ,jS]
    cases f.cps.any (rT f c b)
    ·simp only[jS]
     cases Ae f c b
     ·simp only[jS]
      cases decide (10<=h9 (onP c b) f.cps f.cps.length)
      ·simp only[jS]
       cases decide (b.room<dr (onP c b) Cp.room f.cps f.cps.length+c.room)
       ·simp only[jS]
        cases decide (b.hold<dr (onP c b) Cp.hold f.cps f.cps.length+c.hold)<;>rfl
       ·rfl
      ·rfl
     ·rfl
    ·rfl
  ·rfl
 generalize (bif !uE c.sel b then 3 else bif f.cps.any (rT f c b) then 4 else bif Ae f c b then 5 else
 bif decide (10<=h9 (onP c b) f.cps f.cps.length) then 6 else bif decide (b.room<dr (onP c b) Cp.room f.cps f.cps.length+c.room) then 7 else bif decide (b.hold<dr (onP c b) Cp.hold f.cps f.cps.length+c.hold) then 8 else 0:Nat)=N at fin⊢
 cases hs:b.shut<;>rw[hs] at fin<;>cases o<;>cases h1:sEq c.fixed (mkS [])<;>cases h2:sEq c.fixed b.name<;>
  simp only[cF.d4,q0,q1,h1,h2,fin,C.B_b,C.S_s,jR,jS,jZ,ja,Bool.and_true,Nl,Mx,Nk,jJ,apL,jC,jD,jV]<;>rfl
end
end Go.Ev
namespace Go.Ev
section
variable {f:Fl} (hz:f.Sz 1048576) {c:Cp} (hc:c.Sz 1048576) {b:Bt} (hb:b.Sz 1048576) (hbo:dR b=true)
include hz hc hb hbo
theorem C5 (hv:VB f) (hr:0<=c.room/\c.room<=1000) (hh:0<=c.hold/\c.hold<=1000) (ha:0<=c.apart/\c.apart<=2):lim (apn 31 bT.d4) ([C.b false,C.b false,C.i 0,C.i 0,C.i 0,C.b false,C.l (f.cps.map Cp.e),C.i ((f.cps.length:Nat):Int),C.i 0]++f.e++c.e++b.e)=
  some (.brk 0 ([C.b (mq (rX f c b) f.cps f.cps.length),C.b (mq (tQ c c.svc) f.cps f.cps.length),C.i (h9 (onP c b) f.cps f.cps.length:Nat),C.i (dr (onP c b) Cp.room f.cps f.cps.length),C.i (dr (onP c b) Cp.hold f.cps f.cps.length),C.b (mq (rT f c b) f.cps f.cps.length)]++c.e++b.e)):=by
 have hlc:f.cps.length<big:=by have:=hz.2.2.1;simp only[big];omega
 have h60:=wH hv
 have h:=bQ (body:=apn 31 bT.d4) (S:=fun i=>[C.b (mq (rX f c b) f.cps i),C.b (mq (tQ c c.svc) f.cps i),C.i (h9 (onP c b) f.cps i:Nat),C.i (dr (onP c b) Cp.room f.cps i),C.i (dr (onP c b) Cp.hold f.cps i),C.b (mq (rT f c b) f.cps i),C.l (f.cps.map Cp.e),C.i ((f.cps.length:Nat):Int),C.i (i:Nat)]++f.e++c.e++b.e) (n:=f.cps.length) (b:=0)
  (ys:=[C.b (mq (rX f c b) f.cps f.cps.length),C.b (mq (tQ c c.svc) f.cps f.cps.length),C.i (h9 (onP c b) f.cps f.cps.length:Nat),C.i (dr (onP c b) Cp.room f.cps f.cps.length),C.i (dr (onP c b) Cp.hold f.cps f.cps.length),C.b (mq (rT f c b) f.cps f.cps.length)]++c.e++b.e)
  (fun i hi=>by
   have e3:((i:Int)<(f.cps.length:Int)):=by omega
   have hzo:=Ep f f.cps[i].at_ hz
   simp only[Fl.e,jA,jB] at hzo
   have q1:(f.cps[i].name.toList==c.name.toList)=sEq f.cps[i].name c.name:=rfl
   have q2:(f.cps[i].at_.toList==(bs #[]).toList)=sEq f.cps[i].at_ (mkS []):=rfl
   have q3:(f.cps[i].at_.toList==b.name.toList)=sEq f.cps[i].at_ b.name:=rfl
   have q4:(f.cps[i].svc.toList==c.svc.toList)=sEq f.cps[i].svc c.svc:=rfl
   have q6:(f.cps[i].svc.toList==c.near.toList)=sEq f.cps[i].svc c.near:=rfl
   have q5:((fJ f f.cps[i].at_).toList==b.zone.toList)=sEq (fJ f f.cps[i].at_) b.zone:=rfl
   have b1:=mA (onP c b) Cp.room (lr hv) i (by omega)
   have b2:=mA (onP c b) Cp.hold (ly hv) i (by omega)
   have b3:=F6 (onP c b) f.cps i
   have b4:=lr hv _ (Mq hi)
   have b5:=ly hv _ (Mq hi)
   have b6:=vg hv _ (Mq hi)
   have w2:w64 (dr (onP c b) Cp.room f.cps i+f.cps[i].room)=dr (onP c b) Cp.room f.cps i+f.cps[i].room:=by rw[aN (by omega) (by omega)]
   have w3:w64 (dr (onP c b) Cp.hold f.cps i+f.cps[i].hold)=dr (onP c b) Cp.hold f.cps i+f.cps[i].hold:=by rw[aN (by omega) (by omega)]
   have w4:=ua (n:=h9 (onP c b) f.cps i) (by omega)
   have w5:decide (w64 (c.apart+f.cps[i].apart)>0)=(f.cps[i].apart !=0||c.apart !=0):=by
    rw[aN (by omega) (by omega),Bool.eq_iff_iff,Ms,MX,bne_iff_ne,bne_iff_ne];omega
   simp only[Bo _ hi,pg _ _ hi,wG _ hi]
   generalize mq (rX f c b) f.cps i=A1
   generalize mq (tQ c c.svc) f.cps i=A2
   generalize mq (rT f c b) f.cps i=A3
   generalize dr (onP c b) Cp.room f.cps i=A4 at w2
   generalize dr (onP c b) Cp.hold f.cps i=A5 at w3
   generalize h9 (onP c b) f.cps i=A6 at w4
   simp only[Fl.e,Cp.e,Bt.e,jA,jB,apL,jC,jD,bT.d4,C.I_i,C.L_l,C.S_s,jW,jY,getD_map' Cp.e hi,e3,Mt,jR,jX,rX,tQ,rT,onP,oth]
   simp only[Cp.e,jC,jD,C.S_s,C.I_i,C.B_b,q1,q2,q3,q4,q5,w5,hzo,ad,jI]
   cases sEq f.cps[i].name c.name with
   |true=>simp[bT.d3,w1 hi hlc]
   |false=>
    cases sEq f.cps[i].at_ (mkS []) with
    |true=>simp[bT.d3,w1 hi hlc]
    |false=>
     simp only[ja,jR,jS,Mx]
     have fin:∀(t:Bool) (n:Bool),ah 1 (bT.d2 (.b A1) (.b n) (.i (A6:Nat)) (.i A4) (.i A5) (.b t) (.b (sEq (fJ f f.cps[i].at_) b.zone)) (.l (f.cps.map Cp.e)) (.i (f.cps.length:Nat)) (.i (i:Nat)) (.b f.pack) (.l (f.bts.map Bt.e)) (.l (f.svs.map Sv.e)) (.l (f.cps.map Cp.e))
       (.s c.name) (.s c.svc) (.i c.rank) (.i c.born) (.i c.room) (.i c.hold) (.s c.sel) (.l (c.likes.map Lk.e)) (.i c.apart) (.s c.near) (.s c.fixed) (.s c.at_) (.s b.name) (.s b.zone) (.l (b.marks.map sE)) (.i b.room) (.i b.hold) (.b b.shut)
       (.s f.cps[i].name) (.s f.cps[i].svc) (.i f.cps[i].rank) (.i f.cps[i].born) (.i f.cps[i].room) (.i f.cps[i].hold) (.s f.cps[i].sel) (.l (f.cps[i].likes.map Lk.e)) (.i f.cps[i].apart) (.s f.cps[i].near) (.s f.cps[i].fixed) (.s f.cps[i].at_)) (apn 31 bT.d3)=
       some (.again [.b (A1||(sEq f.cps[i].svc c.near&&sEq (fJ f f.cps[i].at_) b.zone)),.b n,.i ((A6+(bif sEq f.cps[i].at_ b.name then 1 else 0):Nat):Int),.i (A4+(bif sEq f.cps[i].at_ b.name then f.cps[i].room else 0)),.i (A5+(bif sEq f.cps[i].at_ b.name then f.cps[i].hold else 0)),.b t,.l (f.cps.map Cp.e),.i (f.cps.length:Nat),.i ((i+1:Nat):Int),.b f.pack,.l (f.bts.map Bt.e),.l (f.svs.map Sv.e),.l (f.cps.map Cp.e),
       .s c.name,.s c.svc,.i c.rank,.i c.born,.i c.room,.i c.hold,.s c.sel,.l (c.likes.map Lk.e),.i c.apart,.s c.near,.s c.fixed,.s c.at_,.s b.name,.s b.zone,.l (b.marks.map sE),.i b.room,.i b.hold,.b b.shut]):=by
      intro t n
      simp only[bT.d2,C.B_b,C.S_s,q6]
      cases A1<;>cases sEq f.cps[i].svc c.near<;>cases sEq (fJ f f.cps[i].at_) b.zone<;>cases h3:sEq f.cps[i].at_ b.name<;>
       simp only[ja,jZ,jR,jS,jJ,jC,jD,bT.d1,C.S_s,C.I_i,q3,h3,aq,apL,bT.d3,w1 hi hlc,w2,w3,w4,Bool.or_true,Bool.or_false,Bool.and_true,Nl,Mx,Nk,Int.add_zero,Nat.add_zero]
     cases h4:sEq f.cps[i].svc c.svc with
     |false=>simp only[jS,Nk,Bool.or_false,jJ,jC,jD,fin]
     |true=>
      have fin':=fun t:Bool=>fin t true
      cases A3<;>cases h3:sEq f.cps[i].at_ b.name<;>rw[h3] at fin'<;>cases hA:(f.cps[i].apart !=0||c.apart !=0)<;>cases h6:sEq (fJ f f.cps[i].at_) b.zone<;>rw[h6] at fin'<;>cases h8:c.apart==2<;>
       simp only[ja,jZ,jR,jS,Mx,Nk,Bool.and_true,Nl,Bool.or_true,Bool.or_false,Nj,Bool.true_or,jJ,jC,jD,fin'])
  (by simp[bT.d4,Fl.e,Cp.e,Bt.e]) f.cps.length 0 rfl
 have z1:dr (onP c b) Cp.room f.cps 0=0:=by simp[dr]
 have z2:dr (onP c b) Cp.hold f.cps 0=0:=by simp[dr]
 have z3:h9 (onP c b) f.cps 0=0:=by simp[h9]
 have z4:∀p:Cp->Bool,mq p f.cps 0=false:=by simp[mq]
 simp only[Mr,z1,z2,z3,z4] at h
 exact h
theorem zS (hv:VB f) (hr:0<=c.room/\c.room<=1000) (hh:0<=c.hold/\c.hold<=1000) (ha:0<=c.apart/\c.apart<=2) (o:Bool):bT (f.e++c.e++b.e++[.b o])=some [.i (eL f c b (!o):Nat)]:=by
 have h60:=wH hv
 have h:=C5 hz hc hb hbo hv hr hh ha
 have hsel:=D9 c.sel b hc.2.2.1 hb hbo
 have q0:(c.fixed.toList==(bs #[]).toList)=sEq c.fixed (mkS []):=rfl
 have q1:(c.fixed.toList==b.name.toList)=sEq c.fixed b.name:=rfl
 have q2:(c.near.toList==(bs #[]).toList)=sEq c.near (mkS []):=rfl
 have q3:(c.near.toList==c.svc.toList)=sEq c.near c.svc:=rfl
 have b1:=mA (onP c b) Cp.room (lr hv) f.cps.length (by omega)
 have b2:=mA (onP c b) Cp.hold (ly hv) f.cps.length (by omega)
 have w2:w64 (dr (onP c b) Cp.room f.cps f.cps.length+c.room)=dr (onP c b) Cp.room f.cps f.cps.length+c.room:=by rw[aN (by omega) (by omega)]
 have w3:w64 (dr (onP c b) Cp.hold f.cps f.cps.length+c.hold)=dr (onP c b) Cp.hold f.cps f.cps.length+c.hold:=by rw[aN (by omega) (by omega)]
 have e6:(10:Int)<=((h9 (onP c b) f.cps f.cps.length:Nat):Int)↔10<=h9 (onP c b) f.cps f.cps.length:=by omega
 simp only[Fl.e,Cp.e,Bt.e,jA,jB,Dn] at h hsel
 have far:(!sEq c.near (mkS [])&&(!f.cps.any (rX f c b)&&!(sEq c.near c.svc&&!f.cps.any (tQ c c.svc))))=Ae f c b:=by
  unfold Ae
  cases hn:sEq c.near c.svc with
  |true=>rw[(dc _ _).1 hn];simp
  |false=>simp
 have fin:bT.d7 (.b f.pack) (.l (f.bts.map Bt.e)) (.l (f.svs.map Sv.e)) (.l (f.cps.map Cp.e))
   (.s c.name) (.s c.svc) (.i c.rank) (.i c.born) (.i c.room) (.i c.hold) (.s c.sel) (.l (c.likes.map Lk.e)) (.i c.apart) (.s c.near) (.s c.fixed) (.s c.at_) (.s b.name) (.s b.zone) (.l (b.marks.map sE)) (.i b.room) (.i b.hold) (.b b.shut)=
   some (.ret [.i (((bif !uE c.sel b then 3 else bif f.cps.any (rT f c b) then 4 else bif Ae f c b then 5 else
 bif decide (10<=h9 (onP c b) f.cps f.cps.length) then 6 else bif decide (b.room<dr (onP c b) Cp.room f.cps f.cps.length+c.room) then 7 else bif decide (b.hold<dr (onP c b) Cp.hold f.cps f.cps.length+c.hold) then 8 else 0:Nat):Nat):Int)]):=by
  simp only[bT.d7,hsel,ad,jI,jC,C.B_b,C.L_l,jW]
  cases uE c.sel b
  ·rfl
  simp only[jZ,jS]
  rw[h]
  simp only[aq,apL,jC,jD,bT.d6,C.B_b]
  cases f.cps.any (rT f c b)
  ·simp only[jS]
   have d5:∀e:Bool,bT.d5 (.i (h9 (onP c b) f.cps f.cps.length:Nat)) (.i (dr (onP c b) Cp.room f.cps f.cps.length)) (.i (dr (onP c b) Cp.hold f.cps f.cps.length)) (.b e)
     (.s c.name) (.s c.svc) (.i c.rank) (.i c.born) (.i c.room) (.i c.hold) (.s c.sel) (.l (c.likes.map Lk.e)) (.i c.apart) (.s c.near) (.s c.fixed) (.s c.at_) (.s b.name) (.s b.zone) (.l (b.marks.map sE)) (.i b.room) (.i b.hold) (.b b.shut)=
     some (.ret [.i (((bif e then 5 else bif decide (10<=h9 (onP c b) f.cps f.cps.length) then 6 else bif decide (b.room<dr (onP c b) Cp.room f.cps f.cps.length+c.room) then 7 else bif decide (b.hold<dr (onP c b) Cp.hold f.cps f.cps.length+c.hold) then 8 else 0:Nat):Nat):Int)]):=by
    intro e
    simp only[bT.d5,C.B_b,C.I_i,w2,w3,ge_iff_le,gt_iff_lt,e6]
    cases e
    ·simp only[jS]
     cases decide (10<=h9 (onP c b) f.cps f.cps.length)
     ·simp only[jS]
      cases decide (b.room<dr (onP c b) Cp.room f.cps f.cps.length+c.room)
      ·simp only[jS]
       cases decide (b.hold<dr (onP c b) Cp.hold f.cps f.cps.length+c.hold)<;>rfl
      ·rfl
     ·rfl
    ·rfl
   rw[←far]
   generalize (bif decide (10<=h9 (onP c b) f.cps f.cps.length) then 6 else bif decide (b.room<dr (onP c b) Cp.room f.cps f.cps.length+c.room) then 7 else bif decide (b.hold<dr (onP c b) Cp.hold f.cps f.cps.length+c.hold) then 8 else 0:Nat)=N at d5⊢
   simp only[C.S_s,q2,q3]
   cases sEq c.near (mkS [])<;>cases f.cps.any (rX f c b)<;>cases sEq c.near c.svc<;>cases f.cps.any (tQ c c.svc)<;>
    simp only[jR,jS,jZ,ja,jJ,apL,jC,jD,d5,Bool.and_true,Nl,Mx,Nk]
  ·rfl
 simp only[bT,bT.d9,Fl.e,Cp.e,Bt.e,jA,jB,apL,jC,jD,C.B_b,eL]
 generalize (bif !uE c.sel b then 3 else bif f.cps.any (rT f c b) then 4 else bif Ae f c b then 5 else
 bif decide (10<=h9 (onP c b) f.cps f.cps.length) then 6 else bif decide (b.room<dr (onP c b) Cp.room f.cps f.cps.length+c.room) then 7 else bif decide (b.hold<dr (onP c b) Cp.hold f.cps f.cps.length+c.hold) then 8 else 0:Nat)=N at fin⊢
 cases hs:b.shut<;>rw[hs] at fin<;>cases o<;>cases h1:sEq c.fixed (mkS [])<;>cases h2:sEq c.fixed b.name<;>
  simp only[bT.d8,q0,q1,h1,h2,fin,C.B_b,C.S_s,jR,jS,jZ,ja,Bool.and_true,Nl,Mx,Nk,jJ,wX,apL,jC,jD,jV]<;>rfl
end
end Go.Ev
namespace Go.Ev
section
variable {f:Fl} (hz:f.Sz 1048576) (cn bn_:Str)
include hz
end
def better (p:Bool) (a b:Int×Int×Int×Int):Bool:=bif a.1 !=b.1 then decide (a.1>b.1) else bif a.2.1 !=b.2.1 then decide (a.2.1<b.2.1) else bif a.2.2.1 !=b.2.2.1 then decide (a.2.2.1<b.2.2.1) else bif p then decide (a.2.2.2<b.2.2.2) else decide (a.2.2.2>b.2.2.2)
def sc4 (a:Int×Int×Int×Int):List C:=[.i a.1,.i a.2.1,.i a.2.2.1,.i a.2.2.2]
def oJ (f:Fl) (c:Cp) (b:Bt):Int×Int×Int×Int:=(sB c.likes b c.likes.length,(ry f c b f.cps.length:Nat),(nd f c b f.cps.length:Nat),wU f c b f.cps.length)
theorem vA (a b:Int×Int×Int×Int) (p:Bool):gA (sc4 a++sc4 b++[.b p])=some [.b (better p a b)]:=by
 simp only[gA,gA.d1,sc4,jA,jB,apL,jC,jD,C.I_i,C.B_b,better]
 cases a.1 !=b.1<;>cases a.2.1 !=b.2.1<;>cases a.2.2.1 !=b.2.2.1<;>cases p<;>rfl
def Jv (f:Fl) (c:Cp) (i:Int) (b:Bt):Bool:=decide (i<0)||match f.bts[i.toNat]? with|some y=>better f.pack (oJ f c b) (oJ f c y)|none=>true
def jc (f:Fl) (c:Cp):Nat->Int
 |0=>-1
 |i+1=>match f.bts[i]? with
  |some b=>bif eL f c b false==0&&Jv f c (jc f c i) b then i else jc f c i
  |none=>jc f c i
theorem wK (f:Fl) (c:Cp):∀i,i<=f.bts.length->jc f c i=-1∨∃k,∃h:k<f.bts.length,jc f c i=(k:Nat)
 |0,_=>.inl rfl
 |i+1,h=>by
  have hi:i<f.bts.length:=by omega
  have ih:=wK f c i (by omega)
  simp only[jc,Mg hi]
  generalize (eL f c f.bts[i] false==0&&_)=q
  cases q with
  |true=>exact .inr ⟨i,hi,rfl⟩
  |false=>exact ih
def iY (f:Fl) (c:Cp):Str:=match f.bts[(jc f c f.bts.length).toNat]? with
 |some b=>if jc f c f.bts.length<0 then mkS [] else b.name
 |none=>mkS []
section
variable {f:Fl} (hz:f.Sz 1048576) {c:Cp} (hc:c.Sz 1048576) (hv:VB f) (hr:0<=c.room/\c.room<=1000) (hh:0<=c.hold/\c.hold<=1000) (ha:0<=c.apart/\c.apart<=2)
include hz hc hv hr hh ha
theorem Af:cI (f.e++c.e)=some [.s (iY f c)]:=by
 have hlc:f.bts.length<big:=by have:=hz.1.1;simp only[big];omega
 have h:=bQ (body:=apn 18 cI.d2) (S:=fun i=>[C.i (jc f c i),C.i (i:Nat)]++f.e++c.e) (n:=f.bts.length) (b:=0) (ys:=[C.i (jc f c f.bts.length)]++f.e)
  (fun i hi=>by
   have e3:((i:Int)<(f.bts.length:Int)):=by omega
   have m:=Mq hi
   have F1:=ra hz hc (hz.1.2 _ m) (wq hv _ m) hv hr hh false
   have S1:=u7 hz hc (hz.1.2 _ m) (wq hv _ m)
   have S1:bq (f.e++c.e++f.bts[i].e)=some (sc4 (oJ f c f.bts[i])):=S1
   have i1:(-1:Int)<0:=by omega
   have fe:(((eL f c f.bts[i] false:Nat):Int)==0)=(eL f c f.bts[i] false==0):=by rw[Bool.eq_iff_iff,MY,MY];omega
   simp only[jc,Mg hi]
   simp only[Fl.e,Cp.e,Bt.e,jA,jB] at F1 S1
   simp only[Fl.e,Cp.e,jA,jB,apL,jC,jD,cI.d2,C.I_i,C.L_l,C.B_b,jW,jY,getD_map' Bt.e hi,e3,Mt,jR,jX]
   simp only[Bt.e,jC,jD,F1,S1,ad,jI,C.I_i,fe]
   cases eL f c f.bts[i] false==0 with
   |false=>simp[cI.d1,w1 hi hlc]
   |true=>
    rcases wK f c i (by omega) with h|⟨k,hk,h⟩
    ·simp[h,cI.d1,w1 hi hlc,Jv]
    ·have n1:¬((k:Int)<0):=by omega
     have n2:((k:Int)<(f.bts.length:Int)):=by omega
     have m2:=Mq hk
     have S2:bq (f.e++c.e++f.bts[k].e)=some (sc4 (oJ f c f.bts[k])):=u7 hz hc (hz.1.2 _ m2) (wq hv _ m2)
     have B:=vA (oJ f c f.bts[i]) (oJ f c f.bts[k]) f.pack
     simp only[Fl.e,Cp.e,Bt.e,sc4,jA,jB] at S2 B
     simp only[h,n1,n2,Jv,Mt,Mu,ja,jR,jX,jY,getD_map' Bt.e hk,Mg hk,Mx,Nj,sc4,call4,jI,jC,jD]
     simp only[Bt.e,jC,jD,S2,jI,B,C.B_b]
     cases better f.pack (oJ f c f.bts[i]) (oJ f c f.bts[k])<;>simp[cI.d1,w1 hi hlc])
  (by simp[cI.d2,Fl.e,Cp.e]) f.bts.length 0 rfl
 simp only[Fl.e,Cp.e,jA,jB,Mr,show jc f c 0=-1 from rfl] at h
 simp only[cI,cI.d4,Fl.e,Cp.e,jA,jB,apL,jC,jD,iY]
 rw[h]
 simp only[aq,apL,jC,jD,cI.d3,C.I_i,C.L_l,jW]
 rcases wK f c f.bts.length (Mp _) with h|⟨k,hk,h⟩
 ·simp[h]
  split<;>rfl
 ·have n1:¬((k:Int)<0):=by omega
  have n2:((k:Int)<(f.bts.length:Int)):=by omega
  simp only[h,n1,n2,Mt,Mu,jR,jS,jX,jY,getD_map' Bt.e hk,Mg hk,if_false,Bt.e,jC,jV]
end
end Go.Ev
namespace Go.Ev
theorem tL {b:Bt} (h:dR b=true):sEq b.name (mkS [])=false:=BV h _ ((dc _ _).2 rfl)
section
variable {f:Fl} (hz:f.Sz 1048576) {c:Cp} (hc:c.Sz 1048576) (hv:VB f) (hr:0<=c.room/\c.room<=1000) (hh:0<=c.hold/\c.hold<=1000) (ha:0<=c.apart/\c.apart<=2)
include hz hc hv hr hh ha
end
section
variable {f:Fl} (hz:f.Sz 1048576) (cn:Str)
include hz
end
end Go.Ev
namespace Go.Ev
theorem pP {α:Type} (p:α->Bool):∀(l:List α) (n:Nat),ew p l n<0->l.any p=false
 |[],_,_=>rfl
 |x::r,n,h=>by
  simp only[ew] at h
  cases hp:p x with
  |true=>rw[hp,jR] at h;omega
  |false=>rw[hp,jS] at h;simp[hp,pP p r (n+1) h]
def KH (f:Fl) (c:Cp):Bool:=!sEq c.at_ (mkS [])&&match f.bts[(bIx f c.at_).toNat]? with|some b=>!(eL f c b true==0)|none=>false
def K7 (f:Fl) (i:Nat):List Str:=((f.cps.take i).filter (KH f)).map Cp.name
def I7 (f:Fl):List Str:=bif bl f then K7 f f.cps.length else []
section
variable {f:Fl} (hz:f.Sz 1048576)
include hz
end
end Go.Ev
namespace Go.Ev
end Go.Ev
namespace Go.Ev
end Go.Ev
namespace Go.Ev
end Go.Ev
namespace Go.Ev
end Go.Ev
namespace Go.Ev
end Go.Ev
namespace Go.Ev
end Go.Ev
namespace Go.Ev
theorem ltL {i n:Nat} (h:i<n):decide ((i:Int)<(n:Int))=true:=by simp;omega
end Go.Ev
namespace Go.Ev
theorem mK {α:Type} (e:α->List C) {l:List α} {i:Nat} (h:i<l.length):(l.take i).map e++[e l[i]]=(l.take (i+1)).map e:=by
 rw[MN h,MZ];rfl
theorem vW {b:Bt} (h:b.marks.length<=1048576):gB b.e=some b.o:=by
 have:b.marks.length<=4294967296:=by omega
 simp[gB,gB.d1,Bt.e,Bt.o,this]
theorem rp {b:Bt} (h:b.marks.length<=1048576):gS b.e=some b.o:=by
 have:b.marks.length<=4294967296:=by omega
 simp[gS,gS.d1,Bt.e,Bt.o,this]
theorem xl {c:Cp} (h:c.likes.length<=1048576):gU c.e=some c.o:=by
 have:c.likes.length<=4294967296:=by omega
 simp[gU,gU.d1,Cp.e,Cp.o,this]
theorem sK {c:Cp} (h:c.likes.length<=1048576):iJ c.e=some c.o:=by
 have:c.likes.length<=4294967296:=by omega
 simp[iJ,iJ.d1,Cp.e,Cp.o,this]
section
variable {f:Fl} (hz:f.Sz 1048576)
include hz
theorem CJ:dH f.e=some f.e:=by
 have hlb:f.bts.length<big:=by have:=hz.1.1;simp only[big];omega
 have hlc:f.cps.length<big:=by have:=hz.2.2.1;simp only[big];omega
 have h1:=bQ (body:=apn 15 dH.d1) (S:=fun i=>[C.l (f.bts.map Bt.e),C.i (f.bts.length:Nat),C.i (i:Nat)]++f.e++[C.b false,C.b f.pack,.l af,.l af,.l af,C.l ((f.bts.take i).map Bt.e),C.l (f.svs.map Sv.e),.l af]) (n:=f.bts.length) (b:=0) (ys:=f.e++[C.b false,C.b f.pack,.l af,.l af,.l af,C.l ((f.bts.take f.bts.length).map Bt.e),C.l (f.svs.map Sv.e),.l af])
  (fun i hi=>by
   have hc:=vW (hz.1.2 _ (Mq hi)).2.2.1
   have hn:(f.bts.take i).length+1<=4294967296:=by rw[ME];have:=hz.1.1;omega
   have sn:=mK Bt.e hi
   simp only[Bt.e,Bt.o] at hc
   simp only[Fl.e,jA,jB,apL,jC,jD,dH.d1,C.I_i,C.L_l,jW,jY,getD_map' Bt.e hi,ltL hi,Mt,jR,jX,w1 hi hlb]
   simp only[Bt.e] at sn
   simp only[Bt.e,jC,jD,hc,call6,jI,C.L_l,rows,Mn,Mo,My,hn,Mt,jR,sn])
  (by simp[dH.d1,Fl.e]) f.bts.length 0 rfl
 have h2:=bQ (body:=apn 11 dH.d2) (S:=fun i=>[C.l (f.cps.map Cp.e),C.i (f.cps.length:Nat),C.i (i:Nat)]++[C.b false,C.b f.pack,.l af,.l af,.l af,C.l (f.bts.map Bt.e),C.l (f.svs.map Sv.e),C.l ((f.cps.take i).map Cp.e)]) (n:=f.cps.length) (b:=2) (ys:=[C.b false,C.b f.pack,.l af,.l af,.l af,C.l (f.bts.map Bt.e),C.l (f.svs.map Sv.e),C.l ((f.cps.take f.cps.length).map Cp.e)])
  (fun i hi=>by
   have hc:=xl (hz.2.2.2 _ (Mq hi)).2.2.2.2.2.2.1
   have hn:(f.cps.take i).length+1<=4294967296:=by rw[ME];have:=hz.2.2.1;omega
   have sn:=mK Cp.e hi
   simp only[Cp.e,Cp.o] at hc
   simp only[jA,jB,apL,jC,jD,dH.d2,C.I_i,C.L_l,jW,jY,getD_map' Cp.e hi,ltL hi,Mt,jR,jX,w1 hi hlc]
   simp only[Cp.e] at sn
   simp only[Cp.e,jC,jD,hc,call12,jI,C.L_l,rows,Mn,Mo,My,hn,Mt,jR,sn])
  (by simp[dH.d2]) f.cps.length 0 rfl
 have hs:f.svs.length<=4294967296:=by have:=hz.2.1.1;omega
 simp only[Fl.e,jA,jB,Mr,Nc,MC,Na] at h1 h2
 simp only[dH,dH.d5,Fl.e,apL,jC,jD,C.L_l,C.B_b,jW,hs,Mt,jR]
 rw[show af=([]:List (List C)) from rfl] at h1 h2⊢
 rw[h1]
 simp only[aq,apL,jC,jD,dH.d4,C.L_l,jW]
 rw[h2]
 simp[dH.d3]
theorem mD:cw f.e=some f.e:=by
 have hlb:f.bts.length<big:=by have:=hz.1.1;simp only[big];omega
 have hlc:f.cps.length<big:=by have:=hz.2.2.1;simp only[big];omega
 have h1:=bQ (body:=apn 13 cw.d1) (S:=fun i=>[C.i (i:Nat)]++f.e++[C.b false,C.b f.pack,.l af,.l af,.l af,C.l ((f.bts.take i).map Bt.e),C.l (f.svs.map Sv.e),.l af]) (n:=f.bts.length) (b:=0) (ys:=f.e++[C.b false,C.b f.pack,.l af,.l af,.l af,C.l ((f.bts.take f.bts.length).map Bt.e),C.l (f.svs.map Sv.e),.l af])
  (fun i hi=>by
   have hc:=rp (hz.1.2 _ (Mq hi)).2.2.1
   have hn:(f.bts.take i).length+1<=4294967296:=by rw[ME];have:=hz.1.1;omega
   have sn:=mK Bt.e hi
   simp only[Bt.e,Bt.o] at hc
   simp only[Fl.e,jA,jB,apL,jC,jD,cw.d1,C.I_i,C.L_l,jW,jY,getD_map' Bt.e hi,ltL hi,Mt,jR,jX,w1 hi hlb]
   simp only[Bt.e] at sn
   simp only[Bt.e,jC,jD,hc,call6,jI,C.L_l,rows,Mn,Mo,My,hn,Mt,jR,sn])
  (by simp[cw.d1,Fl.e]) f.bts.length 0 rfl
 have h2:=bQ (body:=apn 13 cw.d2) (S:=fun i=>[C.i (i:Nat)]++f.e++[C.b false,C.b f.pack,.l af,.l af,.l af,C.l (f.bts.map Bt.e),C.l (f.svs.map Sv.e),C.l ((f.cps.take i).map Cp.e)]) (n:=f.cps.length) (b:=2) (ys:=[C.b false,C.b f.pack,.l af,.l af,.l af,C.l (f.bts.map Bt.e),C.l (f.svs.map Sv.e),C.l ((f.cps.take f.cps.length).map Cp.e)])
  (fun i hi=>by
   have hc:=sK (hz.2.2.2 _ (Mq hi)).2.2.2.2.2.2.1
   have hn:(f.cps.take i).length+1<=4294967296:=by rw[ME];have:=hz.2.2.1;omega
   have sn:=mK Cp.e hi
   simp only[Cp.e,Cp.o] at hc
   simp only[Fl.e,jA,jB,apL,jC,jD,cw.d2,C.I_i,C.L_l,jW,jY,getD_map' Cp.e hi,ltL hi,Mt,jR,jX,w1 hi hlc]
   simp only[Cp.e] at sn
   simp only[Cp.e,jC,jD,hc,call12,jI,C.L_l,rows,Mn,Mo,My,hn,Mt,jR,sn])
  (by simp[cw.d2,Fl.e]) f.cps.length 0 rfl
 have hs:0+f.svs.length<=4294967296:=by have:=hz.2.1.1;omega
 simp only[Fl.e,jA,jB,Mr,Nc,MC,Na] at h1 h2
 rw[show af=([]:List (List C)) from rfl] at h1 h2
 simp only[cw,cw.d5,Fl.e,apL,jC,jD,C.L_l,C.B_b,jW,show af=([]:List (List C)) from rfl,Mo,hs,Mt,jR,jB]
 rw[h1]
 simp only[aq,apL,jC,jD,cw.d4,C.L_l,jW]
 rw[h2]
 simp[cw.d3]
end
end Go.Ev
namespace Go.Ev
theorem ql:∀(a b c:List UInt8),Op.bytesLess a b=true->Op.bytesLess b c=true->Op.bytesLess a c=true
 |_,_,[],_,h2=>by cases ‹List UInt8›<;>simp[Op.bytesLess] at h2
 |_,[],_::_,h1,_=>by simp[Op.bytesLess] at h1
 |[],_::_,_::_,_,_=>by simp[Op.bytesLess]
 |x::a,y::b,z::c,h1,h2=>by
  simp only[Op.bytesLess,MX,Mk,Ms,MY] at h1 h2⊢
  have lt (p q:UInt8):p<q↔p.toNat<q.toNat:=Iff.rfl
  simp only[lt] at h1 h2⊢
  rcases h1 with h1|⟨rfl,h1⟩
  ·rcases h2 with h2|⟨rfl,h2⟩
   ·left;omega
   ·left;exact h1
  ·rcases h2 with h2|⟨rfl,h2⟩
   ·left;exact h2
   ·right;exact ⟨rfl,ql a b c h1 h2⟩
theorem sC:∀(a:List UInt8),Op.bytesLess a a=false
 |[]=>rfl
 |x::r=>by
  have ih:=sC r
  simp only[Op.bytesLess,ih]
  simp
theorem tV (a:Str):sLt a a=false:=sC _
theorem AR {a b c:Str} (h1:sLt a b=true) (h2:sLt b c=true):sLt a c=true:=ql _ _ _ h1 h2
theorem EB {α:Type} {lt:α->α->Bool} {l:List α} (ht:∀a b c,lt a b=true->lt b c=true->lt a c=true) (h:∀i (h:i+1<l.length),lt (l[i]'(by omega)) l[i+1]=true):
  ∀(d i:Nat) (hj:i+d+1<l.length),lt (l[i]'(by omega)) l[i+d+1]=true
 |0,i,hj=>h i hj
 |d+1,i,hj=>ht _ _ _ (EB ht h d i (by omega)) (h (i+d+1) (by omega))
def ur (l:List Cp):Prop:=∀(i k:Nat) (hi:i<l.length) (hk:k<l.length),sEq l[i].name l[k].name=true->i=k
theorem IH {f:Fl} (h:bl f=true) (d i:Nat) (hj:i+d+1<f.cps.length):sLt (f.cps[i]'(by omega)).name f.cps[i+d+1].name=true:=by
 refine EB (lt:=fun a b:Cp=>sLt a.name b.name) (fun a b c=>AR) (fun i hi=>?_) d i hj
 simp only[bl,Mk] at h
 have:=(cj _ _ _).1 h.2.2.2.2.1 (i+1) (Nat.zero_le _) (by omega)
 have hi':i<f.cps.length:=by omega
 have e:(i+1==0)=false:=rfl
 simp only[cpA,Mg hi,Nat.add_sub_cancel,Mg hi',e,Nj,Mk] at this
 exact this.2.2.1
theorem nW {f:Fl} (h:bl f=true):ur f.cps:=by
 have key:∀(i k:Nat) (hi:i<f.cps.length) (hk:k<f.cps.length),i<k->sEq f.cps[i].name f.cps[k].name=true->False:=by
  intro i k hi hk hlt he
  obtain ⟨d,rfl⟩:∃d,k=i+d+1:=⟨k-i-1,by omega⟩
  have:=IH h d i hk
  rw[(dc _ _).1 he,tV] at this
  exact absurd this (by decide)
 intro i k hi hk he
 rcases Nat.lt_trichotomy i k with h1|h1|h1
 ·exact (key i k hi hk h1 he).elim
 ·exact h1
 ·exact (key k i hk hi h1 (by rw[nq];exact he)).elim
def sV {α:Type} (g:α->α) (l:List α) (i:Nat):List α:=(l.take i).map g++l.drop i
theorem x7 {α:Type} (g:α->α) (l:List α) (i:Nat):(sV g l i).length=l.length:=by simp[sV];omega
theorem CI {α:Type} (g:α->α) {l:List α} {i:Nat} (h:i<l.length):(sV g l i)[i]?=some l[i]:=by
 simp only[sV]
 rw[MW (by simp;omega)]
 simp[Nat.min_eq_left (Nat.le_of_lt h),h]
theorem Ed {α:Type} (g:α->α) {l:List α} {i:Nat} (h:i<l.length):(sV g l i).set i (g l[i])=sV g l (i+1):=by
 have hl:((l.take i).map g).length=i:=by simp;omega
 simp only[sV]
 rw[List.set_append_right _ _ (by omega),hl,Nat.sub_self,MU h,List.set_cons_zero,MN h,MZ,M0]
 rfl
theorem G9 {α:Type} (g:α->α) {l:List α} {i:Nat} (h:i<l.length) (e:g l[i]=l[i]):sV g l (i+1)=sV g l i:=by
 rw[←Ed g h,e]
 refine List.ext_getElem? fun j=>?_
 rw[M9]
 split
 ·rename_i h1
  subst h1
  rw[x7,if_pos h,CI g h]
 ·rfl
theorem Iv {α:Type} (g:α->α) (l:List α):sV g l l.length=l.map g:=by simp[sV]
theorem uD {α:Type} (e:α->List C) {l:List α} {i:Nat} {x:α} (h:l[i]?=some x):(l.map e).getD i []=e x:=by
 rw[Mm,No,h];rfl
def inS (g:List Str) (s:Str):Bool:=g.any fun x=>sEq s x
theorem pH (g:List Str) (s:Str) (hg:g.length<=1048576):bh [.l (g.map sE),.s s]=some [.i (ew (fun x=>sEq s x) g 0)]:=by
 have h:=kP (l:=g) (body:=apn 4 bh.d1) (S:=fun i=>[.l (g.map sE),.s s,.i (g.length:Nat),.i (i:Nat)]) (p:=fun x=>sEq s x) (b:=0)
  (fun i hi=>by
   simp only[apL,jC,jD,bh.d1,C.I_i,C.L_l,C.S_s,jW,jY,getD_map' sE hi,w1 hi (show g.length<big by simp only[big];omega),ltL hi,jR,jX,Mt]
   simp only[sE,jC,C.S_s]
   show (bif sEq s g[i] then _ else _)=_
   cases sEq s g[i]<;>rfl)
  (by simp[bh.d1]) g.length 0 rfl
 simp only[bh,bh.d3,apL,jC,jD,C.L_l,jW]
 rw[show (fun xs:List C=>bh.d2)=fun _=>some (.ret [.i (-1)]) from rfl]
 simp only[Mr,Nb] at h
 rw[h];rfl
theorem nJ (g:List Str) (s:Str) (hg:g.length<=1048576):cW [.l (g.map sE),.s s]=some [.b (inS g s)]:=by
 have:decide (ew (fun x=>sEq s x) g 0≥0)=inS g s:=by
  have:=nj (fun x=>sEq s x) g 0
  unfold inS
  rw[←Bool.not_not (b:=g.any _),←this,←decide_not,decide_eq_decide]
  omega
 simp only[cW,cW.d1,apL,jC,jD,pH g s hg,ad,jI,C.I_i,this,jV]
def goC (g:List Str) (c:Cp):Cp:=bif inS g c.name then {c with at_:=mkS []} else c
def goF (f:Fl) (g:List Str):Fl:= {f with cps:=f.cps.map (goC g)}
theorem BX {f:Fl} (hz:f.Sz 1048576) (g:List Str):(goF f g).Sz 1048576:=by
 refine ⟨hz.1,hz.2.1,by simp only[goF,jW];exact hz.2.2.1,fun c hc=>?_⟩
 simp only[goF,MT] at hc
 obtain ⟨x,hx,rfl⟩:=hc
 have:=hz.2.2.2 x hx
 unfold goC
 cases inS g x.name with
 |false=>exact this
 |true=>exact ⟨this.1,this.2.1,this.2.2.1,this.2.2.2.1,this.2.2.2.2.1,(by simp[mkS];decide),this.2.2.2.2.2.2⟩
theorem Eo {f:Fl} (h:VB f) (g:List Str):VB (goF f g):=by
 refine ⟨by simp only[goF,jW];exact h.n60,fun c hc=>?_,h.bb⟩
 simp only[goF,MT] at hc
 obtain ⟨x,hx,rfl⟩:=hc
 have:=h.cb x hx
 unfold goC
 cases inS g x.name<;>exact this
section
variable {f:Fl} (hz:f.Sz 1048576) (g:List Str) (hg:g.length<=1048576)
include hz hg
theorem Df:mh (f.e++[.l (g.map sE)])=some (goF f g).e:=by
 have hc:=CJ hz
 have hlc:f.cps.length<big:=by have:=hz.2.2.1;simp only[big];omega
 have h:=bQ (body:=apn 11 mh.d1) (S:=fun i=>[C.l (g.map sE),C.i (f.cps.length:Nat),C.i (i:Nat),C.b false,C.b f.pack,.l af,.l af,.l af,C.l (f.bts.map Bt.e),C.l (f.svs.map Sv.e),C.l ((sV (goC g) f.cps i).map Cp.e)]) (n:=f.cps.length) (b:=0) (ys:=[C.b false,C.b f.pack,.l af,.l af,.l af,C.l (f.bts.map Bt.e),C.l (f.svs.map Sv.e),C.l ((sV (goC g) f.cps f.cps.length).map Cp.e)])
  (fun i hi=>by
   have hx:=uD Cp.e (CI (goC g) hi)
   have hk:=nJ g f.cps[i].name hg
   simp only[apL,jC,jD,mh.d1,C.I_i,C.L_l,jW,x7,jY,hx,ltL hi,Mt,jR,jX,w1 hi hlc]
   simp only[Cp.e,jC,hk,ad,jI,C.B_b]
   cases hin:inS g f.cps[i].name with
   |false=>
    rw[G9 (goC g) hi (by simp[goC,hin])];rfl
   |true=>
    rw[←Ed (goC g) hi,Nr]
    simp[goC,hin,Cp.e,aB,show bs #[]=mkS [] from rfl])
  (by simp[mh.d1,x7]) f.cps.length 0 rfl
 simp only[Fl.e,Mr,Iv] at h hc
 have h0:sV (goC g) f.cps 0=f.cps:=by simp[sV]
 rw[h0] at h
 simp only[mh,mh.d3,Fl.e,jA,jB,apL,jC,jD,hc,call4,jI,C.L_l,jW,h,aq,mh.d2,jV,goF]
theorem zq (hu:ur f.cps) (hin:∀j (h:j<g.length),∃k,∃hk:k<f.cps.length,cIx f g[j]=(k:Nat)/\sEq f.cps[k].name g[j]=true):dI (f.e++[.l (g.map sE)])=some (goF f g).e:=by
 have hc:=mD hz
 have hlg:g.length<big:=by simp only[big];omega
 have h:=bQ (body:=apn 10 dI.d1) (S:=fun i=>[C.l (g.map sE),C.i (i:Nat),C.b false,C.b f.pack,.l af,.l af,.l af,C.l (f.bts.map Bt.e),C.l (f.svs.map Sv.e),C.l ((goF f (g.take i)).cps.map Cp.e)]) (n:=g.length) (b:=0) (ys:=[C.b false,C.b f.pack,.l af,.l af,.l af,C.l (f.bts.map Bt.e),C.l (f.svs.map Sv.e),C.l ((goF f (g.take g.length)).cps.map Cp.e)])
  (fun j hj=>by
   obtain ⟨k,hk,e1,e2⟩:=hin j hj
   have hlen:(goF f (g.take j)).cps.length=f.cps.length:=by simp[goF]
   have hix:cIx (goF f (g.take j)) g[j]=cIx f g[j]:=by
    unfold cIx goF
    generalize f.cps=l
    generalize 0=n
    induction l generalizing n with
    |nil=>rfl
    |cons x r ih=>
     have:(goC (g.take j) x).name=x.name:=by unfold goC;cases inS (g.take j) x.name<;>rfl
     simp only[MD,ew,this,ih]
   have hs:=gj (goF f (g.take j)) g[j] (BX hz _).2.2.1
   rw[hix,e1] at hs
   have hkc:(goF f (g.take j)).cps[k]?=some (goC (g.take j) f.cps[k]):=by simp[goF,hk]
   have hx:=uD Cp.e hkc
   simp only[Fl.e,jA,jB,show (goF f (g.take j)).pack=f.pack from rfl,show (goF f (g.take j)).bts=f.bts from rfl,show (goF f (g.take j)).svs=f.svs from rfl] at hs
   simp only[apL,jC,jD,dI.d1,C.I_i,C.L_l,jW,jY,getD_map' sE hj,ltL hj,Mt,jR,jX,w1 hj hlg]
   simp only[sE,jC,hs,ad,jI,C.I_i,jX,Mt,jR,hlen,ltL hk,jY,hx]
   have hfin:((goF f (g.take j)).cps.map Cp.e).set k (aB (goC (g.take j) f.cps[k]).e 11 [.s (bs #[])])=(goF f (g.take (j+1))).cps.map Cp.e:=by
    have e3:aB (goC (g.take j) f.cps[k]).e 11 [.s (bs #[])]=({f.cps[k] with at_:=mkS []}:Cp).e:=by
     unfold goC
     cases inS (g.take j) f.cps[k].name<;>rfl
    rw[e3]
    refine List.ext_getElem? fun m=>?_
    rw[M9]
    simp only[jW,hlen]
    split
    ·rename_i h1
     subst h1
     have:inS (g.take (j+1)) f.cps[k].name=true:=by
      unfold inS
      rw[MN hj,List.any_append]
      simp[e2]
     simp[hk,goF,goC,this]
    ·rename_i h1
     rcases Nat.lt_or_ge m f.cps.length with hm|hm
     ·have:inS (g.take (j+1)) f.cps[m].name=inS (g.take j) f.cps[m].name:=by
       unfold inS
       rw[MN hj,List.any_append]
       have:sEq f.cps[m].name g[j]=false:=by
        cases hq:sEq f.cps[m].name g[j] with
        |false=>rfl
        |true=>
         rw[←(dc _ _).1 e2] at hq
         exact absurd (hu m k hm hk hq).symm h1
       simp[this]
      simp[hm,goF,goC,this]
     ·simp[goF,hm]
   rw[hfin])
  (by simp[dI.d1]) g.length 0 rfl
 have h0:(goF f (g.take 0)).cps=f.cps:=by
  simp only[goF,Nc]
  have:goC []=id:=by funext c;rfl
  rw[this,List.map_id]
 simp only[Fl.e,Mr,h0,Na] at h hc
 simp only[dI,dI.d3,Fl.e,jA,jB,apL,jC,jD,hc,call4,jI,C.L_l,jW,h,aq,dI.d2,jV]
 rfl
end
end Go.Ev
namespace Go.Ev
structure Sp where
 copy:Str
 berth:Str
 gone:List Str
def Sp.e (s:Sp):List C:=[.s s.copy,.s s.berth,.l (s.gone.map sE)]
def Sp.Sz (K:Nat) (s:Sp):Prop:=s.copy.size<=K/\s.berth.size<=K/\yu K s.gone
def fl0:Fl:=⟨false,[],[],[]⟩
def I5 (r:Fl×Bool):List C:=[.b r.1.pack,.b r.2,.l (r.1.bts.map Bt.e),.l (r.1.svs.map Sv.e),.l (r.1.cps.map Cp.e)]
def u0 (f:Fl) (s:Sp) (j:Nat):Bool:=match f.cps[(cIx f (sAt s.gone j)).toNat]? with
 |some x=>sEq x.at_ s.berth
 |none=>false
def setAt (f:Fl) (i:Nat) (c:Cp) (b:Str):Fl:= {f with cps:=f.cps.set i {c with at_:=b}}
def doR (f:Fl) (s:Sp):Fl×Bool:=
 match f.cps[(cIx f s.copy).toNat]?,f.bts[(bIx f s.berth).toNat]? with
 |some c,some b=>bif bl f&&(decide (0<=cIx f s.copy)&&(decide (0<=bIx f s.berth)&&(sEq c.at_ (mkS [])&&(mg f s.gone&&(aA (u0 f s) 0 s.gone.length&&(eL (goF f s.gone) c b false==0)))))) then (setAt (goF f s.gone) (cIx f s.copy).toNat c s.berth,true) else (fl0,false)
 |_,_=>(fl0,false)
theorem IB {g:List Str} {c:Cp} (h:sEq c.at_ (mkS [])=true):goC g c=c:=by
 unfold goC
 cases inS g c.name with
 |false=>rfl
 |true=>
  have:=(dc _ _).1 h
  cases c
  simp only[jR] at this⊢
  rw[this]
theorem HF {f:Fl} {g:List Str} (h:mg f g=true):∀j (hj:j<g.length),∃k,∃hk:k<f.cps.length,cIx f g[j]=(k:Nat)/\sEq f.cps[k].name g[j]=true:=by
 intro j hj
 simp only[mg,Mk] at h
 have:=(cj _ _ _).1 h.1 j (Nat.zero_le _) (by omega)
 rw[jm,eu hj] at this
 rcases qK f g[j] with h|h
 ·have h':decide (0<=cIx f g[j])=false:=by simp;omega
  split at this<;>simp[h'] at this
 ·exact h
section
variable {f:Fl} (hz:f.Sz 1048576) {s:Sp} (hs:s.Sz 1048576)
include hz hs
theorem tK:eG (f.e++s.e)=some (I5 (doR f s)):=by
 have h1:=kz f s.copy hz.2.2.1
 have h2:=jj f s.berth hz.1.1
 have h3:=jx hz
 have hgl:s.gone.length<big:=by have:=hs.2.2.1;simp only[big];omega
 simp only[Fl.e,jA,jB] at h1 h2 h3
 simp only[eG,eG.d3,Fl.e,Sp.e,jA,jB,apL,jC,jD,h1,h2,h3,ad,jI,C.I_i,C.B_b,C.L_l,C.S_s,jW,doR]
 rcases qK f s.copy with h|⟨i,hi,e1,_⟩
 ·have:¬0<=cIx f s.copy:=by omega
  simp only[h,this,Mt,Mu,jZ,jS,Nk,Nl]
  split<;>rfl
 have n1:¬((i:Int)<0):=by omega
 rcases pA f s.berth with h|⟨j,hj,e2,_⟩
 ·have:¬0<=bIx f s.berth:=by omega
  simp only[e1,n1,h,this,Mt,Mu,jZ,ja,jS,jR,Nk,Nl]
  split<;>rfl
 have n2:¬((j:Int)<0):=by omega
 have mi:=Mq hi
 have mj:=Mq hj
 simp only[e1,e2,n1,n2,jY,Mg hi,Mg hj,Mu,Mt,ja,jR,jX,ltL hi,getD_map' Cp.e hi,Mx]
 cases hv:bl f with
 |false=>rfl
 |true=>
  simp only[jZ,ja,jR,Mx]
  have q0:(((f.cps[i].e.getD 11 C.nil).S).toList==(bs #[]).toList)=sEq f.cps[i].at_ (mkS []):=rfl
  rw[q0]
  cases ha:sEq f.cps[i].at_ (mkS []) with
  |false=>rfl
  |true=>
   have hm:=qW hz hs.2.2 hv
   simp only[Fl.e,jA,jB] at hm
   simp only[jZ,ja,jR,hm,jI,jC,C.B_b,Mx]
   cases hg:mg f s.gone with
   |false=>rfl
   |true=>
    have hin:=HF hg
    have hl:=dz (body:=apn 16 eG.d1) (S:=fun k=>[C.i (i:Nat),C.i (j:Nat),C.l (s.gone.map sE),C.i (s.gone.length:Nat),C.i (k:Nat)]++f.e++s.e++[C.b false,.l af,.l af,.l af]) (p:=u0 f s) (n:=s.gone.length) (b:=0) (ys:=[C.i (i:Nat),C.i (j:Nat)]++f.e++s.e++[C.b false,.l af,.l af,.l af]) (r:=[.b false,.b false,.l af,.l af,.l af])
     (fun k hk=>by
      obtain ⟨m,hm,e3,_⟩:=hin k hk
      have hcc:=kz f s.gone[k] hz.2.2.1
      have hp:u0 f s k=sEq f.cps[m].at_ s.berth:=by simp[u0,eu hk,e3,hm]
      simp only[Fl.e,jA,jB] at hcc
      simp only[Fl.e,Sp.e,jA,jB,apL,jC,jD,eG.d1,C.I_i,C.L_l,jW,ltL hk,Mt,jR,jX,jY,getD_map' sE hk,w1 hk hgl,hp]
      simp only[sE,jC,hcc,ad,jI,C.I_i,e3,jX,Mt,jR,ltL hm,jY,getD_map' Cp.e hm]
      show (bif !(sEq f.cps[m].at_ s.berth) then _ else _)=_
      cases sEq f.cps[m].at_ s.berth<;>rfl)
     (by simp[eG.d1,Fl.e,Sp.e]) s.gone.length 0 rfl
    simp only[Fl.e,Sp.e,jA,jB,Mr] at hl
    simp only[jZ,jS]
    rw[hl]
    cases hf:aA (u0 f s) 0 s.gone.length with
    |false=>rfl
    |true=>
     have hgo:=Df hz s.gone hs.2.2.1
     have hcs:(goF f s.gone).cps[i]?=some f.cps[i]:=by simp[goF,hi,IB ha]
     have hcl:(goF f s.gone).cps.length=f.cps.length:=by simp[goF]
     have hx:=uD Cp.e hcs
     have F1:=zS (BX hz s.gone) (hz.2.2.2 _ mi) (hz.1.2 _ mj) ((fB hv).bb _ mj) (Eo (fB hv) s.gone) (lr (fB hv) _ mi) (ly (fB hv) _ mi) (vg (fB hv) _ mi) true
     have fe:(((eL (goF f s.gone) f.cps[i] f.bts[j] false:Nat):Int) !=0)=!(eL (goF f s.gone) f.cps[i] f.bts[j] false==0):=by rw[Bool.eq_iff_iff,bne_iff_ne,MM,Ns];omega
     simp only[Fl.e,Cp.e,Bt.e,jA,jB,jZ] at hgo F1
     simp only[jR,aq,apL,jC,jD,eG.d2,hgo,call4,jI,C.I_i,C.L_l,jW,hcl,jX,Mt,ltL hi,jY,hx,show (goF f s.gone).bts=f.bts from rfl,ltL hj,getD_map' Bt.e hj,Mx]
     simp only[Cp.e,Bt.e,jC,jD,show (goF f s.gone).bts=f.bts from rfl] at F1⊢
     simp only[F1,ad,jI,jC,C.I_i,fe]
     cases eL (goF f s.gone) f.cps[i] f.bts[j] false==0 with
     |false=>rfl
     |true=>
      simp only[jZ,jS,jV,jR,I5,setAt,Nr]
      rfl
end
end Go.Ev
namespace Go.Ev
theorem IK {f:Fl} (hz:f.Sz 1048576) {c:Cp} (hc:c.Sz 1048576) {b:Str} (hb:b.size<=1048576) (i:Nat):(setAt f i c b).Sz 1048576:=by
 refine ⟨hz.1,hz.2.1,by simp only[setAt,MI];exact hz.2.2.1,fun x hx=>?_⟩
 simp only[setAt] at hx
 rcases Nq hx with h|rfl
 ·exact hz.2.2.2 x h
 ·exact ⟨hc.1,hc.2.1,hc.2.2.1,hc.2.2.2.1,hc.2.2.2.2.1,hb,hc.2.2.2.2.2.2⟩
end Go.Ev
namespace Go.Ev
def lP (r:Int) (l:List Int):Nat:=(l.takeWhile fun x=>decide (x≥r)).length
def BR (r:Int) (l:List Int):List Int:=l.take (lP r l)++r::l.drop (lP r l)
def iz (l:List Int):List Int:=l.foldl (fun a r=>BR r a) []
theorem takeN {α:Type} (p:α->Bool):∀l:List α,l.take (l.takeWhile p).length=l.takeWhile p/\l.drop (l.takeWhile p).length=l.dropWhile p
 |[]=>⟨rfl,rfl⟩
 |x::r=>by
  have ih:=takeN p r
  cases h:p x<;>simp[List.takeWhile,List.dropWhile,h,ih]
theorem Cc (r:Int) (l:List Int):lP r l<=l.length:=(List.takeWhile_sublist _).length_le
theorem GV (r:Int) (l:List Int):(BR r l).Perm (r::l):=by
 have h:=List.perm_middle (a:=r) (l₁:=l.take (lP r l)) (l₂:=l.drop (lP r l))
 rw[List.take_append_drop] at h
 exact h
theorem pS {p:Int->Bool} {R:Int->Int->Prop}:∀ {l:List Int},(∀x,x∈l.takeWhile p->p x=true)
 |[],x,h=>by simp at h
 |y::r,x,h=>by
  cases hp:p y with
  |false=>simp[List.takeWhile,hp] at h
  |true=>
   simp only[List.takeWhile,hp,Mw] at h
   rcases h with rfl|h
   ·exact hp
   ·exact pS (R:=R) x h
theorem Dv (r:Int) {l:List Int} (h:l.Pairwise (·≥·)):(BR r l).Pairwise (·≥·):=by
 obtain ⟨e1,e2⟩:=takeN (fun x:Int=>decide (x≥r)) l
 unfold BR lP
 rw[e1,e2]
 have h0:=h
 rw[←List.takeWhile_append_dropWhile (p:=fun x:Int=>decide (x≥r)) (l:=l),List.pairwise_append] at h0
 obtain ⟨h1,h2,h3⟩:=h0
 refine List.pairwise_append.2 ⟨h1,List.pairwise_cons.2 ⟨fun y hy=>?_,h2⟩,fun x hx y hy=>?_⟩
 ·cases hd:l.dropWhile (fun x:Int=>decide (x≥r)) with
  |nil=>rw[hd] at hy;simp at hy
  |cons z t=>
   have hz:¬z≥r:=by
    have:=List.head_dropWhile_not (p:=fun x:Int=>decide (x≥r)) (l:=l) (by rw[hd];simp)
    simp only[hd,List.head_cons,decide_eq_false_iff_not] at this
    exact this
   rw[hd] at hy h2
   rcases Mw.1 hy with rfl|hy
   ·omega
   ·have:=(List.pairwise_cons.1 h2).1 y hy
    omega
 ·have hx':x≥r:=by simpa using pS (R:=(·≥·)) x hx
  rcases Mw.1 hy with rfl|hy
  ·exact hx'
  ·exact h3 x hx y hy
theorem vZ:∀(l a:List Int),a.Pairwise (·≥·)->(l.foldl (fun a r=>BR r a) a).Pairwise (·≥·)/\(l.foldl (fun a r=>BR r a) a).Perm (l++a)
 |[],a,h=>⟨h,.refl _⟩
 |r::l,a,h=>by
  obtain ⟨h1,h2⟩:=vZ l (BR r a) (Dv r h)
  exact ⟨h1,h2.trans (((GV r a).append_left l).trans List.perm_middle)⟩
theorem Fp (l:List Int):(jf l).reverse=iz l:=by
 obtain ⟨h1,h2⟩:=vZ l [] .nil
 rw[M1] at h2
 refine List.Perm.eq_of_pairwise (le:=(·≥·)) (fun a b _ _ h1 h2=>by omega) ?_ h1 (((jf l).reverse_perm.trans (List.mergeSort_perm l _)).trans h2.symm)
 rw[List.pairwise_reverse]
 have:=List.pairwise_mergeSort (le:=fun x y:Int=>decide (x<=y)) (fun a b c h1 h2=>by simp at*;omega) (fun a b=>by simp;omega) l
 exact this.imp fun {a b} h=>by simpa using h
theorem DE (l:List Int) (r:Int):iz (l++[r])=BR r (iz l):=by simp[iz,List.foldl_append]
theorem tz (l:List Int):(iz l).length=l.length:=by
 have:=(vZ l [] .nil).2.length_eq
 simpa [iz] using this
def rK (l:List Int) (k m:Nat):Int:=if m<k∨l.length-k<=m then l.getD (l.length-1-m) 0 else l.getD m 0
def nX (l:List Int) (k:Nat):List Int:=(List.range l.length).map (rK l k)
theorem mJ (l:List Int) (k:Nat) {m:Nat} (h:m<l.length):(nX l k)[m]?=some (rK l k m):=by simp[nX,h]
theorem Bb (l:List Int) (k:Nat):(nX l k).length=l.length:=by simp[nX]
theorem JL (l:List Int):nX l 0=l:=by
 refine List.ext_getElem? fun m=>?_
 rcases Nat.lt_or_ge m l.length with h|h
 ·rw[mJ l 0 h]
  have:¬(m<0∨l.length-0<=m):=by omega
  unfold rK
  rw[if_neg this]
  simp[h]
 ·simp[nX,h]
theorem Gu (l:List Int):nX l (l.length/2)=l.reverse:=by
 refine List.ext_getElem? fun m=>?_
 rcases Nat.lt_or_ge m l.length with h|h
 ·rw[mJ l _ h,List.getElem?_reverse h]
  unfold rK
  split
  ·have:l.length-1-m<l.length:=by omega
   simp[this]
  ·have:l.length-1-m=m:=by omega
   simp[this,h]
 ·simp[nX,h]
theorem kG (l:List Int) (hl:l.length<=4294967296):bg [.l (l.map iE)]=some [.l (l.reverse.map iE)]:=by
 have h:=bQ (body:=apn 3 bg.d1) (S:=fun k=>[C.i (k:Nat),C.i ((l.length:Int)-1-k),C.l ((nX l k).map iE)]) (n:=l.length/2) (b:=0) (ys:=[C.l ((nX l (l.length/2)).map iE)])
  (fun k hk=>by
   have hj:((l.length:Int)-1-k)=((l.length-1-k:Nat):Int):=by omega
   have k1:k<l.length:=by omega
   have k2:l.length-1-k<l.length:=by omega
   have lt:((k:Int)<((l.length-1-k:Nat):Int)):=by omega
   have g1:=uD iE (mJ l k k1)
   have g2:=uD iE (mJ l k k2)
   have a1:rK l k k=l.getD k 0:=by
    unfold rK;rw[if_neg (by omega)]
   have a2:rK l k (l.length-1-k)=l.getD (l.length-1-k) 0:=by
    unfold rK;rw[if_neg (by omega)]
   have wk:w64 ((k:Int)+1)=((k+1:Nat):Int):=by rw[aN (by omega) (by omega)];omega
   have wj:w64 (((l.length-1-k:Nat):Int)-1)=(l.length:Int)-1-((k+1:Nat):Int):=by rw[aN (by omega) (by omega)];omega
   have hset:(((nX l k).map iE).set k (iE (l.getD (l.length-1-k) 0))).set (l.length-1-k) (iE (l.getD k 0))=(nX l (k+1)).map iE:=by
    rw[←Nr,←Nr]
    congr 1
    refine List.ext_getElem? fun m=>?_
    rcases Nat.lt_or_ge m l.length with hm|hm
    ·rw[mJ l (k+1) hm,M9,M9]
     simp only[MI,Bb,k1,k2,if_true]
     split
     ·rename_i e;subst e
      unfold rK
      rw[if_pos (by omega)]
      have:l.length-1-(l.length-1-k)=k:=by omega
      rw[this]
     ·split
      ·rename_i e;subst e
       unfold rK
       rw[if_pos (by omega)]
      ·rw[mJ l k hm]
       unfold rK
       congr 1
       by_cases q:m<k∨l.length-k<=m
       ·rw[if_pos q,if_pos (by omega)]
       ·rw[if_neg q,if_neg (by omega)]
    ·simp[nX,hm]
   simp only[hj,apL,jC,jD,bg.d1,C.I_i,C.L_l,lt,Mt,jR,jX,jW,MI,Bb,ltL k1,ltL k2,jY,g1,g2,a1,a2,wk,wj]
   have s1:aB (iE (l.getD k 0)) 0 [(iE (l.getD (l.length-1-k) 0)).getD 0 C.nil]=iE (l.getD (l.length-1-k) 0):=rfl
   rw[s1]
   have g3:(((nX l k).map iE).set k (iE (l.getD (l.length-1-k) 0))).getD (l.length-1-k) []=iE (l.getD (l.length-1-k) 0):=by
    rw[Mm,List.getElem?_set_ne (by omega),←Mm,g2,a2]
   rw[g3]
   have s2:aB (iE (l.getD (l.length-1-k) 0)) 0 [(iE (l.getD k 0)).getD 0 C.nil]=iE (l.getD k 0):=rfl
   rw[s2,hset])
  (by
   have:¬(((l.length/2:Nat):Int)<(l.length:Int)-1-((l.length/2:Nat):Int)):=by omega
   simp only[apL,jC,jD,bg.d1,C.I_i,C.L_l,this,Mu,jS]) (l.length/2) 0 rfl
 have w0:w64 ((l.length:Int)-1)=(l.length:Int)-1:=aN (by omega) (by omega)
 simp only[Mr,Int.sub_zero,JL,Gu] at h
 simp only[bg,bg.d3,apL,jC,C.L_l,jW,w0,h,aq,bg.d2,jV]
theorem Bw (l:List Int) (hl:l.length<=4294967296):slices_Sort_int [.l (l.map iE)]=some [.l ((jf l).map iE)]:=by
 have:iB (l.map iE)=l:=by
  have:(fun r:List C=>(r.getD 0 .nil).I)∘iE=id:=rfl
  rw[iB,List.map_map,this,List.map_id]
 simp only[slices_Sort_int,x9,jC,C.L_l,jW,hl,Mt,jR,this]
end Go.Ev
namespace Go.Ev
def vF (f:Fl) (s:Str):Int:=match f.cps[(cIx f s).toNat]? with|some c=>c.rank|none=>0
def lX (f:Fl) (g:List Str) (j:Nat):Bool:=decide (0<=cIx f (sAt g j))
def dP (f:Fl) (g:List Str):List Int:=g.map (vF f)
def l9 (f:Fl) (g:List Str):List Int:=bif bl f&&aA (lX f g) 0 g.length then iz (dP f g) else []
theorem BD {f:Fl} {g:List Str} {j:Nat} (hj:j<g.length):(lX f g j=false/\cIx f g[j]<0)∨(lX f g j=true/\∃k,∃hk:k<f.cps.length,cIx f g[j]=(k:Nat)/\vF f g[j]=f.cps[k].rank):=by
 rw[lX,eu hj]
 rcases qK f g[j] with h|⟨k,hk,h,_⟩
 ·exact .inl ⟨by simp;omega,h⟩
 ·exact .inr ⟨by rw[h];simp,k,hk,h,by simp[vF,h,hk]⟩
theorem zJ (f:Fl) {g:List Str} {j:Nat} (hj:j<g.length):dP f (g.take (j+1))=dP f (g.take j)++[vF f g[j]]:=by
 rw[dP,MN hj,MZ];rfl
theorem AW (f:Fl) (g:List Str) (j:Nat):(dP f (g.take j)).length<=g.length:=by
 rw[dP,jW,ME];omega
section
variable {f:Fl} (hz:f.Sz 1048576) (g:List Str) (hg:yu 1048576 g)
include hz hg
theorem nE:cP (f.e++[.l (g.map sE)])=some [.l ((l9 f g).map iE)]:=by
 have h3:=jx hz
 have hgl:g.length<big:=by have:=hg.1;simp only[big];omega
 simp only[Fl.e,jA,jB] at h3
 simp only[cP,cP.d3,Fl.e,jA,jB,apL,jC,jD,h3,ad,jI,C.B_b,C.L_l,jW,l9]
 cases hv:bl f with
 |false=>rfl
 |true=>
  have h:=dz (body:=apn 8 cP.d1) (S:=fun k=>[C.l (g.map sE),C.i (g.length:Nat),C.i (k:Nat)]++f.e++[C.l ((dP f (g.take k)).map iE)]) (p:=lX f g) (n:=g.length) (b:=0) (ys:=[C.l ((dP f (g.take g.length)).map iE)]) (r:=[.l af])
   (fun k hk=>by
    have hc:=kz f g[k] hz.2.2.1
    have hln:=AW f g k
    have hln':(dP f (g.take k)).length+1<=4294967296:=by have:=hg.1;omega
    simp only[Fl.e,jA,jB] at hc
    simp only[Fl.e,jA,jB,apL,jC,jD,cP.d1,C.I_i,C.L_l,jW,ltL hk,Mt,jR,jX,jY,getD_map' sE hk,w1 hk hgl]
    simp only[sE,jC,hc,ad,jI,C.I_i]
    rcases BD (f:=f) hk with ⟨e1,e2⟩|⟨e1,m,hm,e2,e3⟩
    ·simp only[e1,e2,Mt,jR,jS]
    ·have n1:¬((m:Int)<0):=by omega
     have hr:[(f.cps[m].e).getD 2 C.nil]=iE f.cps[m].rank:=rfl
     simp only[e1,e2,n1,Mu,Mt,jS,jR,jX,ltL hm,jY,getD_map' Cp.e hm,hr,rows,Mn,Mo,My,hln',zJ f hk,MZ,e3]
     rfl)
   (by simp[cP.d1,Fl.e]) g.length 0 rfl
  have hln:(dP f g).length<=4294967296:=by have:=hg.1;rw[dP,jW];omega
  have hsl:(jf (dP f g)).length<=4294967296:=by rw[jf,List.length_mergeSort];exact hln
  simp only[Fl.e,jA,jB,Mr,Nc,Na,show dP f []=[] from rfl,MC] at h
  simp only[jZ,jS,Mx,show af=([]:List (List C)) from rfl,h]
  cases aA (lX f g) 0 g.length with
  |false=>rfl
  |true=>
   simp only[jR,aq,apL,jC,cP.d2,C.L_l,Bw _ hln,kG _ hsl,ad,jI,jV,Fp]
theorem Ic (r:Int) (l:List Int) (hl:l.length<=1048576) (a b c:C):lim (apn 9 cO.d1) ([a,b,.i r,.i 0]++f.e++[.l (l.map iE)])=some (.brk 2 ([a,b,.i r,.i (lP r l:Nat)]++f.e++[.l (l.map iE)])):=by
 have hlb:l.length<big:=by simp only[big];omega
 have hle:=Cc r l
 obtain ⟨e1,e2⟩:=takeN (fun x:Int=>decide (x≥r)) l
 have h:=bQ (body:=apn 9 cO.d1) (S:=fun k=>[a,b,.i r,.i (k:Nat)]++f.e++[C.l (l.map iE)]) (n:=lP r l) (b:=2) (ys:=[a,b,.i r,.i (lP r l:Nat)]++f.e++[C.l (l.map iE)])
  (fun k hk=>by
   have hk':k<l.length:=by omega
   have hge:l[k]≥r:=by
    have h1:(l.takeWhile fun x:Int=>decide (x≥r))[k]'hk=l[k]:=by
     have:=(List.takeWhile_prefix (fun x:Int=>decide (x≥r)) (l:=l)).getElem hk
     exact this
    have:=pS (p:=fun x:Int=>decide (x≥r)) (R:=(·≥·)) _ (Mq hk)
    rw[h1] at this
    simpa using this
   simp only[Fl.e,jA,jB,apL,jC,jD,cO.d1,C.I_i,C.L_l,jW,ltL hk',Mt,jR,jX,jY,getD_map' iE hk',w1 hk' hlb]
   simp only[iE,jC,C.I_i,hge,Mt,jR])
  (by
   simp only[Fl.e,jA,jB,apL,jC,jD,cO.d1,C.I_i,C.L_l,jW]
   rcases Nat.lt_or_ge (lP r l) l.length with h|h
   ·have hlt:¬l[lP r l]≥r:=by
     have hd:l.drop (lP r l)=l.dropWhile fun x:Int=>decide (x≥r):=e2
     have hne:l.dropWhile (fun x:Int=>decide (x≥r))≠[]:=by rw[←hd];intro h0;rw[List.drop_eq_nil_iff] at h0;omega
     have:=List.head_dropWhile_not (p:=fun x:Int=>decide (x≥r)) (l:=l) hne
     have h5:(l.drop (lP r l)).head (by rw[hd];exact hne)=l[lP r l]:=by simp[List.head_drop]
     simp only[←hd,h5,decide_eq_false_iff_not] at this
     exact this
    simp only[ltL h,Mt,jR,jX,jY,getD_map' iE h]
    simp only[iE,jC,C.I_i,hlt,Mu,jS]
   ·have:¬(((lP r l:Nat):Int)<(l.length:Int)):=by omega
    simp only[this,Mu,jS]) (lP r l) 0 rfl
 exact h
theorem rL (ht:aA (lX f g) 0 g.length=true):cO (f.e++[.l (g.map sE)])=some [.l ((iz (dP f g)).map iE)]:=by
 have hgl:g.length<big:=by have:=hg.1;simp only[big];omega
 have h:=bQ (body:=apn 7 cO.d3) (S:=fun k=>[C.l (g.map sE),C.i (k:Nat)]++f.e++[C.l ((iz (dP f (g.take k))).map iE)]) (n:=g.length) (b:=0) (ys:=[C.l ((iz (dP f (g.take g.length))).map iE)])
  (fun k hk=>by
   have hc:=gj f g[k] hz.2.2.1
   have hln:=AW f g k
   have hil:(iz (dP f (g.take k))).length<=1048576:=by rw[tz];have:=hg.1;omega
   have hin:=Cc
   simp only[Fl.e,jA,jB] at hc
   simp only[Fl.e,jA,jB,apL,jC,jD,cO.d3,C.I_i,C.L_l,jW,ltL hk,Mt,jR,jX,jY,getD_map' sE hk]
   simp only[sE,jC,hc,ad,jI,C.I_i]
   rcases BD (f:=f) hk with ⟨e1,e2⟩|⟨e1,m,hm,e2,e3⟩
   ·have:=(cj _ _ _).1 ht k (Nat.zero_le _) (by omega)
    rw[e1] at this;cases this
   ·have hr:(f.cps[m].e).getD 2 C.nil=.i f.cps[m].rank:=rfl
    have hI:=Ic hz g hg f.cps[m].rank _ hil (.l (g.map sE)) (.i (k:Nat)) .nil
    have hN:=Cc f.cps[m].rank (iz (dP f (g.take k)))
    simp only[Fl.e,jA,jB] at hI
    simp only[e2,Mt,jR,jX,ltL hm,jY,getD_map' Cp.e hm,hr,zJ f hk,DE,e3]
    generalize iz (dP f (g.take k))=L at hI hil hN⊢
    generalize f.cps[m].rank=r at hI hN⊢
    rw[hI]
    have q1:((lP r L:Nat):Int)<=(L.length:Int):=by omega
    have q2:0+(lP r L)<=4294967296:=by omega
    have q3:min (lP r L) L.length=lP r L:=by omega
    have q4:0+lP r L+(0+1)<=4294967296:=by omega
    have q5:0+lP r L+(0+1)+(L.length-lP r L)<=4294967296:=by omega
    simp only[aq,apL,jC,jD,cO.d2,C.I_i,C.L_l,jW,q1,jX,Mt,jR,jY,rows,MP,MQ,ME,Nat.sub_zero,Mn,Mo,q2,q3,q4,q5,Int.le_refl,Nat.min_self,w1 hk hgl,Nb,jB]
    have p1:lP r L<=4294967295:=by omega
    have p2:lP r L+1+(L.length-lP r L)<=4294967296:=by omega
    simp[BR,iE,List.map_take,List.map_drop,List.take_of_length_le,p1,p2])
  (by simp[cO.d3,Fl.e]) g.length 0 rfl
 simp only[Fl.e,jA,jB,Mr,Nc,Na,show iz (dP f [])=[] from rfl,MC] at h
 simp only[cO,cO.d5,Fl.e,jA,jB,apL,jC,jD,show af=([]:List (List C)) from rfl,h,aq,cO.d4,C.L_l,jV]
theorem yO:dJ (f.e++[.l (g.map sE)])=some [.l ((l9 f g).map iE)]:=by
 have h3:=fq hz
 have hgl:g.length<big:=by have:=hg.1;simp only[big];omega
 have h:=dz (body:=apn 6 dJ.d1) (S:=fun k=>[C.l (g.map sE),C.i (k:Nat)]++f.e) (p:=lX f g) (n:=g.length) (b:=0) (ys:=[C.l (g.map sE)]++f.e) (r:=[.l af])
  (fun k hk=>by
   have hc:=gj f g[k] hz.2.2.1
   simp only[Fl.e,jA,jB] at hc
   simp only[Fl.e,jA,jB,apL,jC,jD,dJ.d1,C.I_i,C.L_l,jW,ltL hk,Mt,jR,jX,jY,getD_map' sE hk,w1 hk hgl]
   simp only[sE,jC,hc,ad,jI,C.I_i]
   rcases BD (f:=f) hk with ⟨e1,e2⟩|⟨e1,m,hm,e2,e3⟩
   ·simp only[e1,e2,Mt,jR,jS]
   ·have n1:¬((m:Int)<0):=by omega
    simp only[e1,e2,n1,Mu,jS,jR])
  (by simp[dJ.d1,Fl.e]) g.length 0 rfl
 simp only[Fl.e,jA,jB,Mr] at h h3
 simp only[dJ,dJ.d3,Fl.e,jA,jB,apL,jC,jD,h,l9]
 cases ht:aA (lX f g) 0 g.length with
 |false=>simp
 |true=>
  have hh:=rL hz g hg ht
  simp only[Fl.e,jA,jB] at hh
  simp only[jR,aq,apL,jC,jD,dJ.d2,h3,ad,jI,C.B_b,Bool.and_true]
  cases bl f with
  |false=>rfl
  |true=>simp only[jZ,jS,jR,hh,jI,jC,C.L_l,jV]
end
end Go.Ev
namespace Go.Ev
section
variable {α:Type} (lt:α->α->Bool)
def lG (c:α) (l:List α):Nat:=(l.takeWhile fun x=>lt x c).length
def BS (c:α) (l:List α):List α:=l.take (lG lt c l)++c::l.drop (lG lt c l)
def xz (l:List α):List α:=l.foldl (fun a c=>BS lt c a) []
theorem Gh (c:α) (l:List α):lG lt c l<=l.length:=(List.takeWhile_sublist _).length_le
theorem Gy (c:α) (l:List α):(BS lt c l).Perm (c::l):=by
 have h:=List.perm_middle (a:=c) (l₁:=l.take (lG lt c l)) (l₂:=l.drop (lG lt c l))
 rw[List.take_append_drop] at h
 exact h
theorem Ew {p:α->Bool}:∀ {l:List α} (x:α),x∈l.takeWhile p->p x=true
 |[],x,h=>by simp at h
 |y::r,x,h=>by
  cases hp:p y with
  |false=>simp[List.takeWhile,hp] at h
  |true=>
   simp only[List.takeWhile,hp,Mw] at h
   rcases h with rfl|h
   ·exact hp
   ·exact Ew x h
theorem Eh (irr:∀x,lt x x=false) (trans:∀x y z,lt x y=true->lt y z=true->lt x z=true) (ntr:∀x y z,lt x y=false->lt y z=false->lt x z=false)
  (c:α) {l:List α} (h:l.Pairwise fun x y=>lt y x=false):(BS lt c l).Pairwise fun x y=>lt y x=false:=by
 obtain ⟨e1,e2⟩:=takeN (fun x=>lt x c) l
 unfold BS lG
 rw[e1,e2]
 have h0:=h
 rw[←List.takeWhile_append_dropWhile (p:=fun x=>lt x c) (l:=l),List.pairwise_append] at h0
 obtain ⟨h1,h2,h3⟩:=h0
 have hz:∀y,y∈l.dropWhile (fun x=>lt x c)->lt y c=false:=by
  intro y hy
  cases hd:l.dropWhile (fun x=>lt x c) with
  |nil=>rw[hd] at hy;simp at hy
  |cons z t=>
   have hz:lt z c=false:=by
    have:=List.head_dropWhile_not (p:=fun x=>lt x c) (l:=l) (by rw[hd];simp)
    simpa only[hd,List.head_cons] using this
   rw[hd] at hy h2
   rcases Mw.1 hy with rfl|hy
   ·exact hz
   ·exact ntr _ _ _ ((List.pairwise_cons.1 h2).1 y hy) hz
 refine List.pairwise_append.2 ⟨h1,List.pairwise_cons.2 ⟨hz,h2⟩,fun x hx y hy=>?_⟩
 have hx':lt x c=true:=Ew x hx
 rcases Mw.1 hy with rfl|hy
 ·cases hq:lt y x with
  |false=>rfl
  |true=>
   have:=trans _ _ _ hx' hq
   rw[irr] at this;cases this
 ·exact h3 x hx y hy
theorem Cn (irr:∀x,lt x x=false) (trans:∀x y z,lt x y=true->lt y z=true->lt x z=true) (ntr:∀x y z,lt x y=false->lt y z=false->lt x z=false):
  ∀(l a:List α),(a.Pairwise fun x y=>lt y x=false)->((l.foldl (fun a c=>BS lt c a) a).Pairwise fun x y=>lt y x=false)/\(l.foldl (fun a c=>BS lt c a) a).Perm (l++a)
 |[],a,h=>⟨h,.refl _⟩
 |c::l,a,h=>by
  obtain ⟨h1,h2⟩:=Cn irr trans ntr l (BS lt c a) (Eh lt irr trans ntr c h)
  exact ⟨h1,h2.trans (((Gy lt c a).append_left l).trans List.perm_middle)⟩
theorem GY (l:List α) (c:α):xz lt (l++[c])=BS lt c (xz lt l):=by simp[xz,List.foldl_append]
end
def ahd (a b:Cp):Bool:=ltE a.rank a.born a.name b.rank b.born b.name
theorem FD (x:Cp):ahd x x=false:=Jt _ _ _
theorem Bc (x y z:Cp):ahd x y=true->ahd y z=true->ahd x z=true:=AP
theorem F7 (x y z:Cp):ahd x y=false->ahd y z=false->ahd x z=false:=E3
def iI (c:Cp):Bool:=sEq c.at_ (mkS [])
def waits (f:Fl):List Cp:=f.cps.filter iI
def queue (f:Fl):List Cp:=xz ahd (waits f)
theorem pY (f:Fl):(queue f).Perm (waits f):=by
 have:=(Cn ahd FD Bc F7 (waits f) [] .nil).2
 rwa [M1] at this
theorem wz {f:Fl} {c:Cp} (h:c∈queue f):c∈f.cps/\iI c=true:=by
 have:=(pY f).mem_iff.1 h
 exact List.mem_filter.1 this
theorem DQ {l:List Cp} (hu:ur l) {x y:Cp} (hx:x∈l) (hy:y∈l) (h:sEq x.name y.name=true):x=y:=by
 obtain ⟨i,hi,rfl⟩:=List.getElem_of_mem hx
 obtain ⟨k,hk,rfl⟩:=List.getElem_of_mem hy
 have:=hu i k hi hk h
 subst this;rfl
theorem ES (f:Fl) {i:Nat} (h:i<f.cps.length):(f.cps.take (i+1)).filter iI=bif iI f.cps[i] then (f.cps.take i).filter iI++[f.cps[i]] else (f.cps.take i).filter iI:=by
 rw[MN h,List.filter_append]
 cases hw:iI f.cps[i]<;>simp[hw]
theorem GL (f:Fl) (i:Nat):((f.cps.take i).filter iI).length<=f.cps.length:=
 MR (Np _ _) (by rw[ME];omega)
def qb (f:Fl):List Str:=bif bl f then (queue f).map Cp.name else []
theorem Cb (a b:Cp):jO (a.e++b.e)=some [.b (ahd a b)]:=by
 simp only[jO,jO.d1,Cp.e,jA,jB,apL,jC,jD,C.I_i,C.S_s,ahd,ltE,eV]
 by_cases e1:a.rank=b.rank
 ·by_cases e2:a.born=b.born
  ·simp[e1,e2]
  ·have:(a.born !=b.born)=true:=by simp[e2]
   have q:(a.born==b.born)=false:=by simp[e2]
   simp[e1,this,q]
 ·have:(a.rank !=b.rank)=true:=by simp[e1]
  have q:(a.rank==b.rank)=false:=by simp[e1]
  simp[this,q]
section
variable {f:Fl} (hz:f.Sz 1048576)
include hz
end
end Go.Ev
namespace Go.Ev
theorem IY (c:Cp):[c.e.getD 0 .nil,c.e.getD 1 .nil,c.e.getD 2 .nil,c.e.getD 3 .nil,c.e.getD 4 .nil,c.e.getD 5 .nil,c.e.getD 6 .nil,c.e.getD 7 .nil,c.e.getD 8 .nil,c.e.getD 9 .nil,c.e.getD 10 .nil,c.e.getD 11 .nil]=c.e:=rfl
section
variable {f:Fl} (hz:f.Sz 1048576)
include hz
theorem HN {i:Nat} (hi:i<f.cps.length) (L:List Cp) (hL:L.length<=60):lim (apn 7 bp.d1) ([.i (i:Nat),.i 0]++f.e++[.l (L.map Cp.e)])=some (.brk 2 ([.i (i:Nat),.i (lG ahd f.cps[i] L:Nat)]++f.e++[.l (L.map Cp.e)])):=by
 have hlb:L.length<big:=by simp only[big];omega
 have hle:=Gh ahd f.cps[i] L
 obtain ⟨e1,e2⟩:=takeN (fun x=>ahd x f.cps[i]) L
 have hA:∀a:Cp,jO [a.e.getD 0 .nil,a.e.getD 1 .nil,a.e.getD 2 .nil,a.e.getD 3 .nil,a.e.getD 4 .nil,a.e.getD 5 .nil,a.e.getD 6 .nil,a.e.getD 7 .nil,a.e.getD 8 .nil,a.e.getD 9 .nil,a.e.getD 10 .nil,a.e.getD 11 .nil,f.cps[i].e.getD 0 .nil,f.cps[i].e.getD 1 .nil,f.cps[i].e.getD 2 .nil,f.cps[i].e.getD 3 .nil,f.cps[i].e.getD 4 .nil,f.cps[i].e.getD 5 .nil,f.cps[i].e.getD 6 .nil,f.cps[i].e.getD 7 .nil,f.cps[i].e.getD 8 .nil,f.cps[i].e.getD 9 .nil,f.cps[i].e.getD 10 .nil,f.cps[i].e.getD 11 .nil]=some [.b (ahd a f.cps[i])]:=fun a=>Cb a f.cps[i]
 have h:=bQ (body:=apn 7 bp.d1) (S:=fun k=>[.i (i:Nat),.i (k:Nat)]++f.e++[C.l (L.map Cp.e)]) (n:=lG ahd f.cps[i] L) (b:=2) (ys:=[.i (i:Nat),.i (lG ahd f.cps[i] L:Nat)]++f.e++[C.l (L.map Cp.e)])
  (fun k hk=>by
   have hk':k<L.length:=by omega
   have hge:ahd L[k] f.cps[i]=true:=by
    have h1:(L.takeWhile fun x=>ahd x f.cps[i])[k]'hk=L[k]:=(List.takeWhile_prefix (fun x=>ahd x f.cps[i]) (l:=L)).getElem hk
    have:=Ew (p:=fun x=>ahd x f.cps[i]) _ (Mq hk)
    rw[h1] at this
    exact this
   simp only[Fl.e,jA,jB,apL,jC,jD,bp.d1,C.I_i,C.L_l,jW,ltL hk',ltL hi,Mt,jR,jX,jY,getD_map' Cp.e hk',getD_map' Cp.e hi,w1 hk' hlb,hA,ad,jI,C.B_b,hge])
  (by
   simp only[Fl.e,jA,jB,apL,jC,jD,bp.d1,C.I_i,C.L_l,jW]
   rcases Nat.lt_or_ge (lG ahd f.cps[i] L) L.length with h|h
   ·have hlt:ahd L[lG ahd f.cps[i] L] f.cps[i]=false:=by
     have hd:L.drop (lG ahd f.cps[i] L)=L.dropWhile fun x=>ahd x f.cps[i]:=e2
     have hne:L.dropWhile (fun x=>ahd x f.cps[i])≠[]:=by rw[←hd];intro h0;rw[List.drop_eq_nil_iff] at h0;omega
     have:=List.head_dropWhile_not (p:=fun x=>ahd x f.cps[i]) (l:=L) hne
     have h5:(L.drop (lG ahd f.cps[i] L)).head (by rw[hd];exact hne)=L[lG ahd f.cps[i] L]:=by simp[List.head_drop]
     simp only[←hd,h5] at this
     exact this
    simp only[ltL h,ltL hi,Mt,jR,jX,jY,getD_map' Cp.e h,getD_map' Cp.e hi,hA,ad,jI,jC,C.B_b,hlt,jS]
   ·have:¬(((lG ahd f.cps[i] L:Nat):Int)<(L.length:Int)):=by omega
    simp only[this,Mu,jS]) (lG ahd f.cps[i] L) 0 rfl
 exact h
theorem ui (hv:VB f):bp f.e=some [.l (((queue f).map Cp.name).map sE)]:=by
 have hlc:f.cps.length<big:=by have:=hz.2.2.1;simp only[big];omega
 have h:=bQ (body:=apn 6 bp.d4) (S:=fun i=>[C.i (i:Nat)]++f.e++[C.l ((xz ahd ((f.cps.take i).filter iI)).map Cp.e)]) (n:=f.cps.length) (b:=0) (ys:=[C.l ((xz ahd ((f.cps.take f.cps.length).filter iI)).map Cp.e)])
  (fun i hi=>by
   have hn:((f.cps.take i).filter iI).length<=60:=by have:=GL f i;have:=hv.n60;omega
   have hil:(xz ahd ((f.cps.take i).filter iI)).length<=60:=by
    have:=(Cn ahd FD Bc F7 ((f.cps.take i).filter iI) [] .nil).2.length_eq
    rw[M1] at this
    simp only[xz];omega
   have q0:(((f.cps[i].e.getD 11 C.nil).S).toList==(bs #[]).toList)=iI f.cps[i]:=rfl
   have hI:=HN hz hi _ hil
   have hN:=Gh ahd f.cps[i] (xz ahd ((f.cps.take i).filter iI))
   simp only[Fl.e,jA,jB] at hI
   simp only[Fl.e,jA,jB,apL,jC,jD,bp.d4,C.I_i,C.L_l,jW,ltL hi,Mt,jR,jX,jY,getD_map' Cp.e hi,q0,ES f hi]
   cases hw:iI f.cps[i] with
   |false=>simp[bp.d3,w1 hi hlc]
   |true=>
    simp only[jR,jZ,jS,GY]
    generalize xz ahd ((f.cps.take i).filter iI)=L at hI hil hN⊢
    rw[hI]
    have q1:((lG ahd f.cps[i] L:Nat):Int)<=(L.length:Int):=by omega
    have q2:0+lG ahd f.cps[i] L<=4294967296:=by omega
    have q3:min (lG ahd f.cps[i] L) L.length=lG ahd f.cps[i] L:=by omega
    have q4:0+lG ahd f.cps[i] L+(0+1)<=4294967296:=by omega
    have q5:0+lG ahd f.cps[i] L+(0+1)+(L.length-lG ahd f.cps[i] L)<=4294967296:=by omega
    simp only[aq,apL,jC,jD,bp.d2,C.I_i,C.L_l,jW,q1,ltL hi,getD_map' Cp.e hi,IY,jX,Mt,jR,jY,rows,MP,MQ,ME,Nat.sub_zero,Mn,Mo,q2,q3,q4,q5,Int.le_refl,Nat.min_self,Nb,jB]
    have p1:lG ahd f.cps[i] L<=4294967295:=by omega
    have p2:lG ahd f.cps[i] L+1+(L.length-lG ahd f.cps[i] L)<=4294967296:=by omega
    simp[BS,List.map_take,List.map_drop,List.take_of_length_le,p1,p2,bp.d3,w1 hi hlc])
  (by simp[bp.d4,Fl.e]) f.cps.length 0 rfl
 have hql:(queue f).length<=60:=by
  rw[(pY f).length_eq]
  exact MR (Np _ _) hv.n60
 have h0:xz ahd (f.cps.filter iI)=queue f:=rfl
 simp only[Fl.e,jA,jB,Mr,Nc,List.filter_nil,show xz ahd ([]:List Cp)=[] from rfl,MC,Na,h0] at h
 generalize queue f=q at h hql⊢
 have h2:=bQ (body:=apn 3 bp.d5) (S:=fun i=>[C.i (i:Nat),C.l (q.map Cp.e),C.l (((q.take i).map Cp.name).map sE)]) (n:=q.length) (b:=4) (ys:=[C.l (((q.take q.length).map Cp.name).map sE)])
  (fun i hi=>by
   have hn:(q.take i).length+1<=4294967296:=by rw[ME];omega
   have hs:[(q[i].e).getD 0 C.nil]=sE q[i].name:=rfl
   simp only[apL,jC,jD,bp.d5,C.I_i,C.L_l,jW,ltL hi,Mt,jR,jX,jY,getD_map' Cp.e hi,rows,Mn,Mo,My,hn,hs,w1 hi (show q.length<big by simp only[big];omega),MN hi,MZ]
   rfl)
  (by simp[bp.d5]) q.length 0 rfl
 simp only[Mr,Nc,MC,Na] at h2
 simp only[bp,bp.d8,Fl.e,apL,jC,jD,show af=([]:List (List C)) from rfl,h,aq,bp.d7,C.L_l,h2,bp.d6,jV]
theorem xx:hU f.e=some [.l ((qb f).map sE)]:=by
 have h3:=fq hz
 simp only[Fl.e] at h3
 simp only[hU,hU.d1,Fl.e,apL,jC,jD,h3,ad,jI,C.B_b,qb]
 cases hv:bl f with
 |false=>rfl
 |true=>
  have hq:=ui hz (fB hv)
  simp only[Fl.e] at hq
  simp only[jZ,jS,jR,hq,jI,jC,C.L_l,jV]
end
end Go.Ev
namespace Go.Ev
def gH {α:Type} (lt:α->α->Bool):List α->List α->Int
 |[],[]=>0
 |[],_::_=>-1
 |_::_,[]=>1
 |x::a,y::b=>bif lt x y then-1 else bif lt y x then 1 else gH lt a b
theorem rb {α:Type} {lt:α->α->Bool} (asym:∀x y,lt x y=true->lt y x=false):∀a b:List α,gH lt b a=-gH lt a b
 |[],[]=>rfl
 |[],_::_=>rfl
 |_::_,[]=>rfl
 |x::a,y::b=>by
  have ih:=rb asym a b
  simp only[gH]
  cases h1:lt x y with
  |true=>rw[asym _ _ h1];rfl
  |false=>cases h2:lt y x<;>simp[ih]
theorem rM {α:Type} {lt:α->α->Bool} {xs ys:List α} {body:List C->R} {S:Nat->List C} {K:List C->R} {b:Nat} (out:Int->List C)
  (hs:∀i (h1:i<xs.length) (h2:i<ys.length),body (S i)=bif lt xs[i] ys[i] then some (.ret (out (-1))) else bif lt ys[i] xs[i] then some (.ret (out 1)) else some (.again (S (i+1))))
  (he:∀i,(i=xs.length∨i=ys.length)->i<=xs.length->i<=ys.length->ah b (lim body (S i)) K=some (.ret (out (if xs.length<ys.length then-1 else if ys.length<xs.length then 1 else 0)))):
  ∀k i,k+i=min xs.length ys.length->ah b (lim body (S i)) K=some (.ret (out (gH lt (xs.drop i) (ys.drop i))))
 |0,i,h=>by
  rw[he i (by omega) (by omega) (by omega)]
  congr 3
  by_cases h1:xs.length<ys.length
  ·rw[if_pos h1,List.drop_of_length_le (show xs.length<=i by omega),MU (show i<ys.length by omega)];rfl
  ·rw[if_neg h1]
   by_cases h2:ys.length<xs.length
   ·rw[if_pos h2,List.drop_of_length_le (show ys.length<=i by omega),MU (show i<xs.length by omega)];rfl
   ·rw[if_neg h2,List.drop_of_length_le (show xs.length<=i by omega),List.drop_of_length_le (show ys.length<=i by omega)];rfl
 |k+1,i,h=>by
  have h1:i<xs.length:=by omega
  have h2:i<ys.length:=by omega
  have hb:=hs i h1 h2
  rw[MU h1,MU h2]
  simp only[gH]
  cases q1:lt xs[i] ys[i] with
  |true=>rw[q1] at hb;rw[js hb];rfl
  |false=>
   rw[q1] at hb
   cases q2:lt ys[i] xs[i] with
   |true=>rw[q2] at hb;rw[js hb];rfl
   |false=>rw[q2] at hb;rw[aD hb,rM out hs he k (i+1) (by omega)];rfl
def ltI (x y:Int):Bool:=decide (x<y)
theorem tR (x y:Int) (h:ltI x y=true):ltI y x=false:=by simp[ltI] at*;omega
theorem J4 (x y:Int):fp [.i x,.i y]=some [.i (bif ltI x y then-1 else bif ltI y x then 1 else 0)]:=by
 simp only[fp,fp.d1,cmp_isNaN_int,cmp_isNaN_int.d1,apL,jC,jD,C.I_i,bne_self_eq_false,jV,ad,jI,C.B_b,jS,ltI,gt_iff_lt]
 by_cases h1:x<y
 ·simp[h1]
 ·by_cases h2:y<x<;>simp[h1,h2]
theorem Kd (x y:Str) (hx:True):ei [.s x,.s y]=some [.i (bif sLt x y then-1 else bif sLt y x then 1 else 0)]:=by
 have e:(!(Op.bytesLess x.toList y.toList||x.toList==y.toList))=sLt y x:=by
  have:=Cl x y
  show (!(sLt x y||sEq x y))=_
  rw[this,Bool.not_not]
 have hn:∀z:Str,cmp_isNaN_string [.s z]=some [.b false]:=fun z=>by
  simp[cmp_isNaN_string,cmp_isNaN_string.d1]
 simp only[ei,ei.d1,hn,apL,jC,jD,C.S_s,ad,jI,C.B_b,jS,e,jV]
 show aU (bif sLt x y then _ else _)=_
 cases sLt x y<;>cases sLt y x<;>rfl
theorem kF (xs ys:List Int) (hx:xs.length<=1048576) (hy:ys.length<=1048576):aP [.l (xs.map iE),.l (ys.map iE)]=some [.i (gH ltI xs ys)]:=by
 have hb:xs.length<big:=by simp only[big];omega
 have h:=rM (lt:=ltI) (xs:=xs) (ys:=ys) (body:=apn 5 aP.d1) (S:=fun i=>[.l (xs.map iE),.l (ys.map iE),.l (xs.map iE),.i (xs.length:Nat),.i (i:Nat)]) (K:=apn 2 aP.d2) (b:=0) (fun n=>[.i n])
  (fun i h1 h2=>by
   have n1:¬((i:Int)≥(ys.length:Int)):=by omega
   simp only[apL,jC,jD,aP.d1,C.I_i,C.L_l,jW,ltL h1,ltL h2,n1,Mt,Mu,jR,jS,jX,jY,getD_map' iE h1,getD_map' iE h2,w1 h1 hb]
   simp only[iE,jC,J4,ad,jI,C.I_i]
   cases ltI xs[i] ys[i]<;>cases ltI ys[i] xs[i]<;>rfl)
  (fun i h0 h1 h2=>by
   rcases Nat.lt_or_ge i xs.length with h|h
   ·have hi:i=ys.length:=by omega
    subst hi
    have hr:apn 5 aP.d1 [.l (xs.map iE),.l (ys.map iE),.l (xs.map iE),.i (xs.length:Nat),.i (ys.length:Nat)]=some (.ret [.i 1]):=by
     have n1:((ys.length:Int)≥(ys.length:Int)):=by omega
     simp only[apL,jC,jD,aP.d1,C.I_i,C.L_l,jW,ltL h,n1,Mt,jR,jX]
    rw[js hr,if_neg (by omega),if_pos h];rfl
   ·have hi:i=xs.length:=by omega
    subst hi
    have hr:apn 5 aP.d1 [.l (xs.map iE),.l (ys.map iE),.l (xs.map iE),.i (xs.length:Nat),.i (xs.length:Nat)]=some (.brk 0 [.l (xs.map iE),.l (ys.map iE)]):=by
     simp[aP.d1]
    rw[aR hr]
    simp only[aq,apL,jC,jD,aP.d2,C.L_l,jW]
    by_cases h3:xs.length<ys.length
    ·rw[if_pos h3,ltL h3];rfl
    ·have:¬((xs.length:Int)<(ys.length:Int)):=by omega
     rw[if_neg h3,if_neg (by omega)];simp[this])
  (min xs.length ys.length) 0 (by omega)
 simp only[Mr,Nb] at h
 simp only[aP,aP.d3,apL,jC,jD,C.L_l,jW,h,jV]
theorem ou (xs ys:List Str) (hx:xs.length<=1048576) (hy:ys.length<=1048576):aH [.l (xs.map sE),.l (ys.map sE)]=some [.i (gH sLt xs ys)]:=by
 have hb:xs.length<big:=by simp only[big];omega
 have h:=rM (lt:=sLt) (xs:=xs) (ys:=ys) (body:=apn 5 aH.d1) (S:=fun i=>[.l (xs.map sE),.l (ys.map sE),.l (xs.map sE),.i (xs.length:Nat),.i (i:Nat)]) (K:=apn 2 aH.d2) (b:=0) (fun n=>[.i n])
  (fun i h1 h2=>by
   have n1:¬((i:Int)≥(ys.length:Int)):=by omega
   simp only[apL,jC,jD,aH.d1,C.I_i,C.L_l,jW,ltL h1,ltL h2,n1,Mt,Mu,jR,jS,jX,jY,getD_map' sE h1,getD_map' sE h2,w1 h1 hb]
   simp only[sE,jC,Kd _ _ trivial,ad,jI,C.I_i]
   cases sLt xs[i] ys[i]<;>cases sLt ys[i] xs[i]<;>rfl)
  (fun i h0 h1 h2=>by
   rcases Nat.lt_or_ge i xs.length with h|h
   ·have hi:i=ys.length:=by omega
    subst hi
    have hr:apn 5 aH.d1 [.l (xs.map sE),.l (ys.map sE),.l (xs.map sE),.i (xs.length:Nat),.i (ys.length:Nat)]=some (.ret [.i 1]):=by
     have n1:((ys.length:Int)≥(ys.length:Int)):=by omega
     simp only[apL,jC,jD,aH.d1,C.I_i,C.L_l,jW,ltL h,n1,Mt,jR,jX]
    rw[js hr,if_neg (by omega),if_pos h];rfl
   ·have hi:i=xs.length:=by omega
    subst hi
    have hr:apn 5 aH.d1 [.l (xs.map sE),.l (ys.map sE),.l (xs.map sE),.i (xs.length:Nat),.i (xs.length:Nat)]=some (.brk 0 [.l (xs.map sE),.l (ys.map sE)]):=by
     simp[aH.d1]
    rw[aR hr]
    simp only[aq,apL,jC,jD,aH.d2,C.L_l,jW]
    by_cases h3:xs.length<ys.length
    ·rw[if_pos h3,ltL h3];rfl
    ·have:¬((xs.length:Int)<(ys.length:Int)):=by omega
     rw[if_neg h3,if_neg (by omega)];simp[this])
  (min xs.length ys.length) 0 (by omega)
 simp only[Mr,Nb] at h
 simp only[aH,aH.d3,apL,jC,jD,C.L_l,jW,h,jV]
theorem FU (n m:Nat):decide ((if n<m then (-1:Int) else if m<n then 1 else 0)<0)=decide (n<m):=by
 by_cases h:n<m
 ·simp[h]
 ·by_cases h2:m<n<;>simp[h,h2]
theorem mP (xs ys:List Int) (hx:xs.length<=1048576) (hy:ys.length<=1048576):cA [.l (xs.map iE),.l (ys.map iE)]=some [.b (decide (gH ltI xs ys<0))]:=by
 have hb:xs.length<big:=by simp only[big];omega
 have h:=rM (lt:=ltI) (xs:=xs) (ys:=ys) (body:=apn 3 cA.d1) (S:=fun i=>[.l (xs.map iE),.l (ys.map iE),.i (i:Nat)]) (K:=apn 2 cA.d2) (b:=0) (fun n=>[.b (decide (n<0))])
  (fun i h1 h2=>by
   simp only[apL,jC,jD,cA.d1,C.I_i,C.L_l,jW,ltL h1,ltL h2,Mt,Mu,jR,jS,jX,jY,getD_map' iE h1,getD_map' iE h2,w1 h1 hb]
   simp only[iE,jC,C.I_i,ltI]
   rcases Int.lt_trichotomy xs[i] ys[i] with h|h|h
   ·have:(xs[i] !=ys[i])=true:=by rw[bne_iff_ne];omega
    simp[this,h]
   ·rw[h];simp
   ·have:(xs[i] !=ys[i])=true:=by rw[bne_iff_ne];omega
    have h':¬xs[i]<ys[i]:=by omega
    simp[this,h,h'])
  (fun i h0 h1 h2=>by
   have hr:apn 3 cA.d1 [.l (xs.map iE),.l (ys.map iE),.i (i:Nat)]=some (.brk 0 [.l (xs.map iE),.l (ys.map iE)]):=by
    simp only[apL,jC,jD,cA.d1,C.I_i,C.L_l,jW]
    rcases Nat.lt_or_ge i xs.length with h|h
    ·have:¬((i:Int)<(ys.length:Int)):=by omega
     simp only[ltL h,this,Mu,jR,jS]
    ·have:¬((i:Int)<(xs.length:Int)):=by omega
     simp only[this,Mu,jS]
   rw[aR hr,FU]
   simp only[aq,apL,jC,jD,cA.d2,C.L_l,jW]
   congr 5
   simp)
  (min xs.length ys.length) 0 (by omega)
 simp only[Mr,Nb] at h
 simp only[cA,cA.d3,apL,jC,jD,h,jV]
theorem B5 (xs ys:List Str) (hx:xs.length<=1048576) (hy:ys.length<=1048576):er [.l (xs.map sE),.l (ys.map sE)]=some [.b (decide (gH sLt xs ys<0))]:=by
 have hb:xs.length<big:=by simp only[big];omega
 have h:=rM (lt:=sLt) (xs:=xs) (ys:=ys) (body:=apn 3 er.d1) (S:=fun i=>[.l (xs.map sE),.l (ys.map sE),.i (i:Nat)]) (K:=apn 2 er.d2) (b:=0) (fun n=>[.b (decide (n<0))])
  (fun i h1 h2=>by
   simp only[apL,jC,jD,er.d1,C.I_i,C.L_l,jW,ltL h1,ltL h2,Mt,Mu,jR,jS,jX,jY,getD_map' sE h1,getD_map' sE h2,w1 h1 hb]
   simp only[sE,jC,C.S_s]
   have e:=Cl xs[i] ys[i]
   show (bif !(sEq xs[i] ys[i]) then some (Out.ret [C.b (sLt xs[i] ys[i])]) else _)=_
   cases h1:sLt xs[i] ys[i]<;>cases h2:sLt ys[i] xs[i]<;>cases h3:sEq xs[i] ys[i]<;>simp_all
   all_goals (rw[dc] at h3;rw[h3,tV] at h1;cases h1))
  (fun i h0 h1 h2=>by
   have hr:apn 3 er.d1 [.l (xs.map sE),.l (ys.map sE),.i (i:Nat)]=some (.brk 0 [.l (xs.map sE),.l (ys.map sE)]):=by
    simp only[apL,jC,jD,er.d1,C.I_i,C.L_l,jW]
    rcases Nat.lt_or_ge i xs.length with h|h
    ·have:¬((i:Int)<(ys.length:Int)):=by omega
     simp only[ltL h,this,Mu,jR,jS]
    ·have:¬((i:Int)<(xs.length:Int)):=by omega
     simp only[this,Mu,jS]
   rw[aR hr,FU]
   simp only[aq,apL,jC,jD,er.d2,C.L_l,jW]
   congr 5
   simp)
  (min xs.length ys.length) 0 (by omega)
 simp only[Mr,Nb] at h
 simp only[er,er.d3,apL,jC,jD,h,jV]
end Go.Ev
namespace Go.Ev
def gR (c:Cp) (b:Bt) (d:Cp):Bool:=sEq d.at_ b.name&&decide (d.rank<c.rank)
def eD (f:Fl) (c:Cp) (b:Bt):List Cp:=f.cps.filter (gR c b)
def kp (set i:Nat):Bool:=set/2^i%2==1
def iC (l:List Cp) (set:Nat):Nat->List Cp
 |0=>[]
 |i+1=>match l[i]? with
  |some d=>bif kp set i then iC l set i++[d] else iC l set i
  |none=>iC l set i
theorem sm {l:List Cp} {i:Nat} (set:Nat) (h:i<l.length):iC l set (i+1)=bif kp set i then iC l set i++[l[i]] else iC l set i:=by
 simp[iC,h]
theorem o0 {l:List Cp} {set:Nat} {x:Cp}:∀ {i:Nat},x∈iC l set i->x∈l
 |0,h=>by simp[iC] at h
 |i+1,h=>by
  simp only[iC] at h
  cases hl:l[i]? with
  |none=>rw[hl] at h;exact o0 h
  |some d=>
   rw[hl] at h
   simp only at h
   cases hb:kp set i with
   |false=>rw[hb] at h;exact o0 h
   |true=>
    rw[hb,jR] at h
    rcases MO.1 h with h|h
    ·exact o0 h
    ·rw[MH] at h
     rw[h];exact M8 hl
theorem qO (l:List Cp) (set:Nat):∀i,(iC l set i).length<=i
 |0=>Mp _
 |i+1=>by
  have ih:=qO l set i
  simp only[iC]
  split
  ·cases kp set i<;>simp<;>omega
  ·omega
def mc (f:Fl) (c:Cp) (b:Bt) (set:Nat):List Str:=(iC (eD f c b) set (eD f c b).length).map Cp.name
structure iL (f:Fl) (l:List Str):Prop where
 len:l.length<=f.cps.length
 mem:∀s,s∈l->∃d,d∈f.cps/\d.name=s
theorem sc (f:Fl) (c:Cp) (b:Bt) (set:Nat):iL f (mc f c b set):=by
 refine ⟨?_,fun s hs=>?_⟩
 ·rw[mc,jW]
  exact MR (qO _ _ _) (Np _ _)
 ·rw[mc,MT] at hs
  obtain ⟨d,hd,rfl⟩:=hs
  exact ⟨d,(List.mem_filter.1 (o0 hd)).1,rfl⟩
theorem Hd (f:Fl):iL f []:=⟨Nat.zero_le _,fun s hs=>by simp at hs⟩
theorem rH {f:Fl} (hu:ur f.cps) {d:Cp} (hd:d∈f.cps):∃k,∃hk:k<f.cps.length,cIx f d.name=(k:Nat)/\f.cps[k]=d:=by
 rcases qK f d.name with h|⟨k,hk,h,e⟩
 ·have:=pP _ _ _ h
  have h2:f.cps.any (fun x:Cp=>sEq x.name d.name)=true:=Nh.2 ⟨d,hd,(dc _ _).2 rfl⟩
  rw[this] at h2;cases h2
 ·exact ⟨k,hk,h,DQ hu (Mq hk) hd e⟩
theorem Gz {f:Fl} (hu:ur f.cps) {d:Cp} (hd:d∈f.cps):vF f d.name=d.rank:=by
 obtain ⟨k,hk,h,rfl⟩:=rH hu hd
 simp[vF,h,hk]
theorem Ho {f:Fl} (hu:ur f.cps) {l:List Cp} (h:∀d,d∈l->d∈f.cps):dP f (l.map Cp.name)=l.map Cp.rank:=by
 rw[dP,List.map_map]
 exact List.map_congr_left fun d hd=>Gz hu (h d hd)
theorem iL.sz {f:Fl} {l:List Str} (h:iL f l) (hz:f.Sz 1048576):yu 1048576 l:=by
 refine ⟨MR h.len hz.2.2.1,fun s hs=>?_⟩
 obtain ⟨d,hd,rfl⟩:=h.mem s hs
 exact (hz.2.2.2 d hd).1
theorem iL.ix {f:Fl} {l:List Str} (h:iL f l) (hu:ur f.cps):∀j (hj:j<l.length),∃k,∃hk:k<f.cps.length,cIx f l[j]=(k:Nat)/\sEq f.cps[k].name l[j]=true:=by
 intro j hj
 obtain ⟨d,hd,e⟩:=h.mem l[j] (Mq hj)
 obtain ⟨k,hk,h1,h2⟩:=rH hu hd
 exact ⟨k,hk,by rw[←e];exact h1,by rw[h2,e];exact (dc _ _).2 rfl⟩
theorem iL.there {f:Fl} {l:List Str} (h:iL f l) (hu:ur f.cps):aA (lX f l) 0 l.length=true:=by
 rw[cj]
 intro j _ hj
 have hj:j<l.length:=by omega
 obtain ⟨k,hk,h1,_⟩:=h.ix hu j hj
 rw[lX,eu hj,h1]
 simp
def dC (f:Fl) (l:List Str):List Int:=iz (dP f l)
theorem su {f:Fl} {l:List Str} (h:iL f l):(dC f l).length<=f.cps.length:=by
 rw[dC,tz,dP,jW];exact h.len
def uY (f:Fl) (l best:List Str):Bool:=decide (0<gH ltI (dC f l) (dC f best))||(gH ltI (dC f l) (dC f best)==0&&decide (0<=gH sLt l best))
def qw (f:Fl) (c:Cp) (b:Bt) (l:List Str):Bool:=mg f l&&(eL (goF f l) c b false==0)
def pj (f:Fl) (c:Cp) (b:Bt) (st:Option (List Str)) (l:List Str):Option (List Str):=
 bif (match st with|some best=>uY f l best|none=>false) then st else bif qw f c b l then some l else st
def vic (f:Fl) (c:Cp) (b:Bt):Nat->Option (List Str)
 |0=>none
 |k+1=>pj f c b (vic f c b k) (mc f c b k)
theorem sh (f:Fl) (c:Cp) (b:Bt):∀k,iL f ((vic f c b k).getD [])
 |0=>Hd f
 |k+1=>by
  have ih:=sh f c b k
  simp only[vic,pj]
  generalize (match vic f c b k with|some best=>uY f (mc f c b k) best|none=>false)=q
  cases q with
  |true=>exact ih
  |false=>
   cases qw f c b (mc f c b k) with
   |false=>exact ih
   |true=>exact sc f c b k
theorem J5 (set i:Nat):(((set:Int).fdiv (2^i)).tmod 2==1)=kp set i:=by
 have e:(set:Int).fdiv (2^i)=((set/2^i:Nat):Int):=by
  rw[Int.fdiv_eq_ediv_of_nonneg _ (Int.pow_nonneg (by decide))]
  simp
 rw[e,kp,Int.tmod_eq_emod_of_nonneg (jX _)]
 generalize set/2^i=n
 rw[Bool.eq_iff_iff,MY,MY]
 omega
theorem JJ (set i:Nat) (hs:set<9223372036854775808):(w64 ((BitVec.ofInt (IntKind.bits .i64) ((set:Int).fdiv (2^i))&&& BitVec.ofInt (IntKind.bits .i64) 1).toNat:Int)==1)=kp set i:=by
 have e:(set:Int).fdiv (2^i)=((set/2^i:Nat):Int):=by
  rw[Int.fdiv_eq_ediv_of_nonneg _ (Int.pow_nonneg (by decide))]
  simp
 rw[e,kp]
 have hn:set/2^i<9223372036854775808:=Nat.lt_of_le_of_lt (Nat.div_le_self _ _) hs
 generalize set/2^i=n at hn
 have e2:(BitVec.ofInt (IntKind.bits .i64) (n:Int)&&& BitVec.ofInt (IntKind.bits .i64) 1).toNat=n%2:=by
  rw[BitVec.toNat_and]
  have h1:(BitVec.ofInt (IntKind.bits .i64) (n:Int)).toNat=n:=by
   show (BitVec.ofInt 64 (n:Int)).toNat=n
   rw[BitVec.toNat_ofInt]
   omega
  have h2:(BitVec.ofInt (IntKind.bits .i64) 1).toNat=1:=by decide
  rw[h1,h2,Nat.and_one_is_mod]
 rw[e2,aN (by omega) (by omega),Bool.eq_iff_iff,MY,MY]
 omega
theorem Bd {f:Fl} (hv:VB f) (c:Cp) (b:Bt):(eD f c b).length<=60:=MR (Np _ _) hv.n60
theorem Fo {n:Nat} (h:n<=60):w64 (1*2^(min n 64))=((2^n:Nat):Int)/\2^n<9223372036854775808:=by
 have e:min n 64=n:=by omega
 have h2:2^n<=2^60:=Nat.pow_le_pow_right (by decide) h
 have h3:(2:Nat)^60=1152921504606846976:=by decide
 rw[h3] at h2
 have e2:(1*2^n:Int)=((2^n:Nat):Int):=by simp
 rw[e,e2]
 generalize 2^n=N at h2
 rw[aN (by omega) (by omega)]
 exact ⟨rfl,by omega⟩
theorem sU (f:Fl) (c:Cp) (b:Bt) {i:Nat} (h:i<f.cps.length):(f.cps.take (i+1)).filter (gR c b)=bif gR c b f.cps[i] then (f.cps.take i).filter (gR c b)++[f.cps[i]] else (f.cps.take i).filter (gR c b):=by
 rw[MN h,List.filter_append]
 cases hw:gR c b f.cps[i]<;>simp[hw]
theorem yS (p:Cp->Bool) (f:Fl) (i:Nat):((f.cps.take i).filter p).length<=f.cps.length:=
 MR (Np _ _) (by rw[ME];omega)
end Go.Ev
namespace Go.Ev
theorem EN {f:Fl} (l best:List Str):(decide (gH ltI (dC f best) (dC f l)<0)||(!decide (gH ltI (dC f l) (dC f best)<0)&&!decide (gH sLt l best<0)))=uY f l best:=by
 rw[rb tR (dC f l) (dC f best)]
 unfold uY
 generalize gH ltI (dC f l) (dC f best)=k
 generalize gH sLt l best=m
 rcases Int.lt_trichotomy k 0 with h|h|h
 ·have h1:¬-k<0:=by omega
  have h2:¬0<k:=by omega
  have h3:(k==0)=false:=by rw[Ns];omega
  simp[h,h1,h2,h3]
 ·subst h
  simp
  rw[←decide_not,decide_eq_decide];omega
 ·have h1:-k<0:=by omega
  simp[h,h1]
section
variable {f:Fl} (hz:f.Sz 1048576) {c:Cp} (hc:c.Sz 1048576) {b:Bt} (hb:b.Sz 1048576) (hbo:dR b=true) (hv:bl f=true) (hr:0<=c.room/\c.room<=1000) (hh:0<=c.hold/\c.hold<=1000)
include hz hc hb hbo hv hr hh
theorem DT:lim (apn 24 aG.d1) ([.i 0]++f.e++c.e++b.e++[.l af])=some (.brk 0 (f.e++c.e++b.e++[.l (((eD f c b).map Cp.name).map sE)])):=by
 have hlc:f.cps.length<big:=by have:=hz.2.2.1;simp only[big];omega
 have h:=bQ (body:=apn 24 aG.d1) (S:=fun i=>[C.i (i:Nat)]++f.e++c.e++b.e++[C.l ((((f.cps.take i).filter (gR c b)).map Cp.name).map sE)]) (n:=f.cps.length) (b:=0) (ys:=f.e++c.e++b.e++[.l ((((f.cps.take f.cps.length).filter (gR c b)).map Cp.name).map sE)])
  (fun i hi=>by
   have hn:((f.cps.take i).filter (gR c b)).length+1<=4294967296:=by have:=yS (gR c b) f i;have:=hz.2.2.1;omega
   have q0:(((f.cps[i].e.getD 11 C.nil).S).toList==b.name.toList)=sEq f.cps[i].at_ b.name:=rfl
   have q1:((f.cps[i].e.getD 2 C.nil).I)=f.cps[i].rank:=rfl
   have hs:[f.cps[i].e.getD 0 C.nil]=sE f.cps[i].name:=rfl
   simp only[Fl.e,Cp.e,Bt.e,jA,jB,apL,jC,jD,aG.d1,C.I_i,C.L_l,C.S_s,jW,ltL hi,Mt,jR,jX,jY,getD_map' Cp.e hi]
   simp only[Cp.e,jC,jD,C.S_s,C.I_i] at q0 q1 hs⊢
   rw[sU f c b hi]
   simp only[gR,q0]
   cases sEq f.cps[i].at_ b.name with
   |false=>simp[w1 hi hlc]
   |true=>
    cases hd:decide (f.cps[i].rank<c.rank) with
    |false=>simp[w1 hi hlc]
    |true=>
     simp only[jR,Bool.and_self,hs,rows,Mn,Mo,My,hn,Mt,w1 hi hlc,MZ,MD,MC])
  (by simp[aG.d1,Fl.e,Cp.e,Bt.e]) f.cps.length 0 rfl
 simp only[Mr,Nc,List.filter_nil,MC,Na] at h
 exact h
theorem ER (fo:Bool) (set:Nat) (hs:set<9223372036854775808) (cs:List Cp) (hcs:cs.length<=60) (best:List (List C)):lim (apn 28 aG.d2) ([.b fo,.i set,.i 0]++f.e++c.e++b.e++[.l ((cs.map Cp.name).map sE),.l best,.l af])=
  some (.brk 4 ([.b fo,.i set]++f.e++c.e++b.e++[.l ((cs.map Cp.name).map sE),.l best,.l (((iC cs set cs.length).map Cp.name).map sE)])):=by
 have hlc:cs.length<big:=by simp only[big];omega
 have h:=bQ (body:=apn 28 aG.d2) (S:=fun i=>[C.b fo,C.i set,C.i (i:Nat)]++f.e++c.e++b.e++[.l ((cs.map Cp.name).map sE),.l best,C.l (((iC cs set i).map Cp.name).map sE)]) (n:=cs.length) (b:=4) (ys:=[C.b fo,C.i set]++f.e++c.e++b.e++[.l ((cs.map Cp.name).map sE),.l best,C.l (((iC cs set cs.length).map Cp.name).map sE)])
  (fun i hi=>by
   have hi':i<(cs.map Cp.name).length:=by simpa using hi
   have hn:(iC cs set i).length+1<=4294967296:=by have:=qO cs set i;omega
   have hmin:min i 64=i:=by omega
   have hgn:((cs.map Cp.name).map sE).getD i []=sE cs[i].name:=by
    rw[getD_map' sE hi'];simp
   have hs1:[(sE cs[i].name).getD 0 C.nil]=sE cs[i].name:=rfl
   simp only[Fl.e,Cp.e,Bt.e,jA,jB,apL,jC,jD,aG.d2,C.I_i,C.L_l,C.S_s,jW,ltL hi,Mt,jR,jX,jY,hmin,J5,hgn,hs1,rows,Mn,Mo,My,hn,w1 hi hlc,sm set hi]
   cases kp set i<;>simp)
  (by simp[aG.d2,Fl.e,Cp.e,Bt.e]) cs.length 0 rfl
 exact h
theorem Lv {st:Option (List Str)} (hst:iL f (st.getD [])) {l:List Str} (hl:iL f l) (set:Int) (nm:List (List C)):
  apn 27 aG.d3 ([.b st.isSome,.i set]++f.e++c.e++b.e++[.l nm,.l ((st.getD []).map sE),.l (l.map sE)])=
  some (.brk 3 ([.b (bif qw f c b l then some l else st).isSome,.i set]++f.e++c.e++b.e++[.l nm,.l (((bif qw f c b l then some l else st).getD []).map sE)])):=by
 have hu:=nW hv
 have hm:=uU hz (hl.sz hz) hv
 have hw:=zq hz l (hl.sz hz).1 hu (hl.ix hu)
 have F1:=ra (BX hz l) hc hb hbo (Eo (fB hv) l) hr hh false
 have fe:(((eL (goF f l) c b false:Nat):Int)==0)=(eL (goF f l) c b false==0):=by rw[Bool.eq_iff_iff,MY,MY];omega
 simp only[Fl.e,Cp.e,Bt.e,jA,jB] at hm hw F1
 simp only[Fl.e,Cp.e,Bt.e,jA,jB,apL,jC,jD,aG.d3,C.L_l,hm,ad,jI,C.B_b,qw]
 cases mg f l with
 |false=>simp
 |true=>
  simp only[jR,hw,call4,jI,jC,jD,C.L_l,F1,C.I_i,fe,Mx]
  cases eL (goF f l) c b false==0<;>simp
theorem Lf {st:Option (List Str)} (hst:iL f (st.getD [])) {l:List Str} (hl:iL f l) (set:Int) (nm:List (List C)):
  apn 27 aG.d4 ([.b st.isSome,.i set]++f.e++c.e++b.e++[.l nm,.l ((st.getD []).map sE),.l (l.map sE)])=
  some (.brk 3 ([.b (pj f c b st l).isSome,.i set]++f.e++c.e++b.e++[.l nm,.l (((pj f c b st l).getD []).map sE)])):=by
 have ht:=Lv hz hc hb hbo hv hr hh hst hl set nm
 have hu:=nW hv
 cases st with
 |none=>
  simp only[Nf,Fl.e,Cp.e,Bt.e,jA,jB,apL,jC,jD] at ht
  simp only[Nf,Fl.e,Cp.e,Bt.e,jA,jB,apL,jC,jD,aG.d4,C.B_b,C.L_l,jS,jJ,ht,pj]
 |some best=>
  have hst:iL f best:=hst
  have h1:=rL hz l (hl.sz hz) (hl.there hu)
  have h2:=rL hz best (hst.sz hz) (hst.there hu)
  have hn60:=(fB hv).n60
  have b1:=su hl
  have b2:=su hst
  have b3:=hl.len
  have b4:=hst.len
  have l1:=mP (dC f best) (dC f l) (by omega) (by omega)
  have l2:=mP (dC f l) (dC f best) (by omega) (by omega)
  have l3:=B5 l best (by omega) (by omega)
  have hw:=EN (f:=f) l best
  simp only[Fl.e,jA,jB] at h1 h2
  rw[show iz (dP f l)=dC f l from rfl] at h1
  rw[show iz (dP f best)=dC f best from rfl] at h2
  simp only[Nd,Ng,Fl.e,Cp.e,Bt.e,jA,jB,apL,jC,jD] at ht
  simp only[Nd,Ng,Fl.e,Cp.e,Bt.e,jA,jB,apL,jC,jD,aG.d4,C.B_b,C.L_l,jR,h1,h2,l1,l2,l3,ad,jI,pj,←hw]
  cases decide (gH ltI (dC f best) (dC f l)<0) with
  |true=>simp
  |false=>
   simp only[ja,jR,Nj]
   cases decide (gH ltI (dC f l) (dC f best)<0) with
   |true=>simp only[jZ,jS,Nk,jJ,apL,jC,jD,ht]
   |false=>
    simp only[ja,jR,Mx]
    cases decide (gH sLt l best<0) with
    |true=>simp only[jZ,jS,jJ,apL,jC,jD,ht]
    |false=>simp
def kn (f:Fl) (c:Cp) (b:Bt):Option (List Str):=vic f c b (2^(eD f c b).length)
theorem zz:aG (f.e++c.e++b.e)=some [.b (kn f c b).isSome,.l (((kn f c b).getD []).map sE)]:=by
 have hcl:=Bd (fB hv) c b
 obtain ⟨p1,p2⟩:=Fo hcl
 have h0:=DT hz hc hb hbo hv hr hh
 have h:=bQ (body:=apn 26 aG.d6) (S:=fun k=>[C.b (vic f c b k).isSome,C.i (k:Nat)]++f.e++c.e++b.e++[C.l (((eD f c b).map Cp.name).map sE),C.l (((vic f c b k).getD []).map sE)]) (n:=2^(eD f c b).length) (b:=2) (ys:=[C.b (kn f c b).isSome,C.l (((kn f c b).getD []).map sE)])
  (fun k hk=>by
   have hb1:=ER hz hc hb hbo hv hr hh (vic f c b k).isSome k (by omega) (eD f c b) hcl (((vic f c b k).getD []).map sE)
   have hs1:=Lf hz hc hb hbo hv hr hh (sh f c b k) (sc f c b k) (k:Nat) (((eD f c b).map Cp.name).map sE)
   have hlt:((k:Int)<((2^(eD f c b).length:Nat):Int)):=by omega
   have hw:w64 ((k:Int)+1)=((k+1:Nat):Int):=by rw[aN (by omega) (by omega)];omega
   rw[show ((iC (eD f c b) k (eD f c b).length).map Cp.name)=mc f c b k from rfl] at hb1
   simp only[Fl.e,Cp.e,Bt.e,jA,jB] at hb1 hs1
   simp only[Fl.e,Cp.e,Bt.e,jA,jB,apL,jC,jD,aG.d6,C.I_i,C.L_l,jW,jX,Mt,jR,jY,p1,hlt,show af=([]:List (List C)) from rfl] at hb1⊢
   rw[hb1]
   simp only[aq,hs1,apL,jC,jD,aG.d5,C.I_i,C.L_l,hw]
   rfl)
  (by
   have hlt:¬(((2^(eD f c b).length:Nat):Int)<((2^(eD f c b).length:Nat):Int)):=by omega
   simp only[Fl.e,Cp.e,Bt.e,jA,jB,apL,jC,jD,aG.d6,C.I_i,C.L_l,jW,jX,Mt,jR,jY,p1,hlt,Mu,jS]
   rfl) (2^(eD f c b).length) 0 (by omega)
 simp only[vic,Nf,Option.getD_none,MC,Mr,Fl.e,Cp.e,Bt.e,jA,jB] at h h0
 simp only[show af=([]:List (List C)) from rfl] at h0
 simp only[aG,aG.d9,Fl.e,Cp.e,Bt.e,jA,jB,apL,jC,jD,show af=([]:List (List C)) from rfl,h0,aq,aG.d8,C.L_l,h,aG.d7,C.B_b,jV]
end
end Go.Ev
namespace Go.Ev
def stH (f:Fl) (st:Option (List Str)):List Int:=match st with|some best=>dC f best|none=>[]
theorem Gt {f:Fl} (hu:ur f.cps) (c:Cp) (b:Bt) (set:Nat):(jf ((iC (eD f c b) set (eD f c b).length).map Cp.rank)).reverse=dC f (mc f c b set):=by
 rw[Fp,dC,mc,Ho hu (l:=iC (eD f c b) set (eD f c b).length) fun d hd=>(List.mem_filter.1 (show d∈f.cps.filter (gR c b) from o0 hd)).1]
section
variable {f:Fl} (hz:f.Sz 1048576) {c:Cp} (hc:c.Sz 1048576) {b:Bt} (hb:b.Sz 1048576) (hbo:dR b=true) (hv:bl f=true) (hr:0<=c.room/\c.room<=1000) (hh:0<=c.hold/\c.hold<=1000) (ha:0<=c.apart/\c.apart<=2)
include hz hc hb hbo hv hr hh ha
theorem DA:lim (apn 26 aI.d2) ([.l (f.cps.map Cp.e),.i (f.cps.length:Nat),.i 0]++f.e++c.e++b.e++[.l af])=some (.brk 0 (f.e++c.e++b.e++[.l ((eD f c b).map Cp.e)])):=by
 have hlc:f.cps.length<big:=by have:=hz.2.2.1;simp only[big];omega
 have h:=bQ (body:=apn 26 aI.d2) (S:=fun i=>[C.l (f.cps.map Cp.e),C.i (f.cps.length:Nat),C.i (i:Nat)]++f.e++c.e++b.e++[C.l (((f.cps.take i).filter (gR c b)).map Cp.e)]) (n:=f.cps.length) (b:=0) (ys:=f.e++c.e++b.e++[.l (((f.cps.take f.cps.length).filter (gR c b)).map Cp.e)])
  (fun i hi=>by
   have hn:((f.cps.take i).filter (gR c b)).length+1<=4294967296:=by have:=yS (gR c b) f i;have:=hz.2.2.1;omega
   have q0:(((f.cps[i].e.getD 11 C.nil).S).toList==b.name.toList)=sEq f.cps[i].at_ b.name:=rfl
   have q1:((f.cps[i].e.getD 2 C.nil).I)=f.cps[i].rank:=rfl
   have hf:f.e=[.b f.pack,.l (f.bts.map Bt.e),.l (f.svs.map Sv.e),.l (f.cps.map Cp.e)]:=rfl
   have hce:c.e=[.s c.name,.s c.svc,.i c.rank,.i c.born,.i c.room,.i c.hold,.s c.sel,.l (c.likes.map Lk.e),.i c.apart,.s c.near,.s c.fixed,.s c.at_]:=rfl
   have hbe:b.e=[.s b.name,.s b.zone,.l (b.marks.map sE),.i b.room,.i b.hold,.b b.shut]:=rfl
   simp only[hf,hce,hbe,jA,jB,apL,jC,jD,aI.d2,C.I_i,C.L_l,C.S_s,jW,ltL hi,Mt,jR,jX,jY,getD_map' Cp.e hi,IY,q0,q1]
   rw[sU f c b hi]
   simp only[gR]
   cases sEq f.cps[i].at_ b.name with
   |false=>simp[aI.d1,w1 hi hlc]
   |true=>
    cases hd:decide (f.cps[i].rank<c.rank) with
    |false=>simp[aI.d1,w1 hi hlc]
    |true=>
     simp only[jR,Bool.and_self,rows,Mn,Mo,My,hn,Mt,jJ,apL,jC,jD,aI.d1,C.I_i,C.L_l,w1 hi hlc,MZ,MD,MC])
  (by simp[aI.d2,Fl.e,Cp.e,Bt.e]) f.cps.length 0 rfl
 simp only[Mr,Nc,List.filter_nil,MC,Na] at h
 exact h
theorem Ey (fo:C) (N set:Nat) (hs:set<9223372036854775808) (cs:List Cp) (hcs:cs.length<=60) (best harm:List (List C)):lim (apn 33 aI.d3) ([fo,.i set,.i N,.i set,.i (cs.length:Nat),.i 0]++f.e++c.e++b.e++[.l (cs.map Cp.e),.l best,.l harm,.l af,.l af])=
  some (.brk 4 ([fo,.i N,.i set]++f.e++c.e++b.e++[.l (cs.map Cp.e),.l best,.l harm,.l (((iC cs set cs.length).map Cp.name).map sE),.l (((iC cs set cs.length).map Cp.rank).map iE)])):=by
 have hlc:cs.length<big:=by simp only[big];omega
 have h:=bQ (body:=apn 33 aI.d3) (S:=fun i=>[fo,C.i set,C.i N,C.i set,C.i (cs.length:Nat),C.i (i:Nat)]++f.e++c.e++b.e++[.l (cs.map Cp.e),.l best,.l harm,C.l (((iC cs set i).map Cp.name).map sE),C.l (((iC cs set i).map Cp.rank).map iE)]) (n:=cs.length) (b:=4) (ys:=[fo,C.i N,C.i set]++f.e++c.e++b.e++[.l (cs.map Cp.e),.l best,.l harm,C.l (((iC cs set cs.length).map Cp.name).map sE),C.l (((iC cs set cs.length).map Cp.rank).map iE)])
  (fun i hi=>by
   have hn:(iC cs set i).length+1<=4294967296:=by have:=qO cs set i;omega
   have hmin:min i 64=i:=by omega
   have hs1:[cs[i].e.getD 0 C.nil]=sE cs[i].name:=rfl
   have hs2:[cs[i].e.getD 2 C.nil]=iE cs[i].rank:=rfl
   have hf:f.e=[.b f.pack,.l (f.bts.map Bt.e),.l (f.svs.map Sv.e),.l (f.cps.map Cp.e)]:=rfl
   have hce:c.e=[.s c.name,.s c.svc,.i c.rank,.i c.born,.i c.room,.i c.hold,.s c.sel,.l (c.likes.map Lk.e),.i c.apart,.s c.near,.s c.fixed,.s c.at_]:=rfl
   have hbe:b.e=[.s b.name,.s b.zone,.l (b.marks.map sE),.i b.room,.i b.hold,.b b.shut]:=rfl
   simp only[hf,hce,hbe,jA,jB,apL,jC,jD,aI.d3,C.I_i,C.L_l,C.S_s,jW,ltL hi,Mt,jR,jX,jY,hmin,JJ set i hs,getD_map' Cp.e hi,hs1,hs2,rows,Mn,Mo,My,hn,w1 hi hlc,sm set hi]
   cases kp set i<;>simp)
  (by simp[aI.d3,Fl.e,Cp.e,Bt.e]) cs.length 0 rfl
 exact h
theorem Lr {st:Option (List Str)} (hst:iL f (st.getD [])) {l:List Str} (hl:iL f l) (N set:C) (cs:List (List C)):
  apn 30 aI.d4 ([.b st.isSome,N,set]++f.e++c.e++b.e++[.l cs,.l ((st.getD []).map sE),.l ((stH f st).map iE),.l (l.map sE),.l ((dC f l).map iE)])=
  some (.brk 3 ([.b (bif qw f c b l then some l else st).isSome,N,set]++f.e++c.e++b.e++[.l cs,.l (((bif qw f c b l then some l else st).getD []).map sE),.l ((stH f (bif qw f c b l then some l else st)).map iE)])):=by
 have hm:=qW hz (hl.sz hz) hv
 have hw:=Df hz l (hl.sz hz).1
 have F1:=zS (BX hz l) hc hb hbo (Eo (fB hv) l) hr hh ha true
 have fe:(((eL (goF f l) c b false:Nat):Int) !=0)=!(eL (goF f l) c b false==0):=by rw[Bool.eq_iff_iff,bne_iff_ne,MM,Ns];omega
 simp only[Fl.e,Cp.e,Bt.e,jA,jB,jZ] at hm hw F1
 simp only[Fl.e,Cp.e,Bt.e,jA,jB,apL,jC,jD,aI.d4,C.L_l,hm,ad,jI,C.B_b,qw]
 cases mg f l with
 |false=>simp
 |true=>
  simp only[jR,jZ,ja,hw,call4,jI,jC,jD,C.L_l,F1,C.I_i,fe,Mx]
  cases eL (goF f l) c b false==0<;>simp[stH]
theorem Ll {st:Option (List Str)} (hst:iL f (st.getD [])) {l:List Str} (hl:iL f l) {rk:List Int} (hrk:rk.length<=60) (hrs:(jf rk).reverse=dC f l) (N set:C) (cs:List (List C)):
  apn 30 aI.d5 ([.b st.isSome,N,set]++f.e++c.e++b.e++[.l cs,.l ((st.getD []).map sE),.l ((stH f st).map iE),.l (l.map sE),.l (rk.map iE)])=
  some (.brk 3 ([.b (pj f c b st l).isSome,N,set]++f.e++c.e++b.e++[.l cs,.l (((pj f c b st l).getD []).map sE),.l ((stH f (pj f c b st l)).map iE)])):=by
 have ht:=Lr hz hc hb hbo hv hr hh ha hst hl N set cs
 have e1:=Bw rk (by omega)
 have e2:=kG (jf rk) (by rw[jf,List.length_mergeSort];omega)
 rw[hrs] at e2
 simp only[Fl.e,Cp.e,Bt.e,jA,jB,apL,jC,jD] at ht
 simp only[Fl.e,Cp.e,Bt.e,jA,jB,apL,jC,jD,aI.d5,C.B_b,C.L_l,e1,e2,ad,jI]
 cases st with
 |none=>
  simp only[Nf] at ht
  simp only[Nf,jS,jJ,apL,jC,jD,ht,pj]
 |some best=>
  have hst:iL f best:=hst
  have hn60:=(fB hv).n60
  have b1:=su hl
  have b2:=su hst
  have b3:=hl.len
  have b4:=hst.len
  have l1:=kF (dC f l) (dC f best) (by omega) (by omega)
  have l3:=ou l best (by omega) (by omega)
  simp only[Nd,Ng,stH] at ht
  simp only[Nd,Ng,stH,jR,l1,l3,ad,jI,jC,C.I_i,pj,uY,gt_iff_lt,ge_iff_le]
  cases decide (0<gH ltI (dC f l) (dC f best)) with
  |true=>simp
  |false=>
   simp only[ja,jR,Nj]
   cases gH ltI (dC f l) (dC f best)==0 with
   |false=>simp only[jS,Nk,jJ,apL,jC,jD,ht]
   |true=>
    simp only[jR,Mx]
    cases decide (0<=gH sLt l best) with
    |false=>simp only[jS,jJ,apL,jC,jD,ht]
    |true=>simp
theorem Ak:aI (f.e++c.e++b.e)=some [.b (kn f c b).isSome,.l (((kn f c b).getD []).map sE),.l ((stH f (kn f c b)).map iE)]:=by
 have hcl:=Bd (fB hv) c b
 have hu:=nW hv
 obtain ⟨p1,p2⟩:=Fo hcl
 have h0:=DA hz hc hb hbo hv hr hh ha
 have h:=bQ (body:=apn 28 aI.d7) (S:=fun k=>[C.b (vic f c b k).isSome,C.i ((2^(eD f c b).length:Nat):Int),C.i (k:Nat)]++f.e++c.e++b.e++[C.l ((eD f c b).map Cp.e),C.l (((vic f c b k).getD []).map sE),C.l ((stH f (vic f c b k)).map iE)]) (n:=2^(eD f c b).length) (b:=2) (ys:=[C.b (kn f c b).isSome,C.l (((kn f c b).getD []).map sE),C.l ((stH f (kn f c b)).map iE)])
  (fun k hk=>by
   have hb1:=Ey hz hc hb hbo hv hr hh ha (.b (vic f c b k).isSome) (2^(eD f c b).length) k (by omega) (eD f c b) hcl (((vic f c b k).getD []).map sE) ((stH f (vic f c b k)).map iE)
   have hs1:=Ll hz hc hb hbo hv hr hh ha (sh f c b k) (sc f c b k) (rk:=(iC (eD f c b) k (eD f c b).length).map Cp.rank) (by rw[jW];have:=qO (eD f c b) k (eD f c b).length;omega) (Gt hu c b k) (.i ((2^(eD f c b).length:Nat):Int)) (.i (k:Nat)) ((eD f c b).map Cp.e)
   have hlt:((k:Int)<((2^(eD f c b).length:Nat):Int)):=by omega
   have hw:w64 ((k:Int)+1)=((k+1:Nat):Int):=by rw[aN (by omega) (by omega)];omega
   rw[show ((iC (eD f c b) k (eD f c b).length).map Cp.name)=mc f c b k from rfl] at hb1
   simp only[Fl.e,jA,jB,show c.e=[.s c.name,.s c.svc,.i c.rank,.i c.born,.i c.room,.i c.hold,.s c.sel,.l (c.likes.map Lk.e),.i c.apart,.s c.near,.s c.fixed,.s c.at_] from rfl,show b.e=[.s b.name,.s b.zone,.l (b.marks.map sE),.i b.room,.i b.hold,.b b.shut] from rfl] at hb1 hs1
   simp only[Fl.e,jA,jB,show c.e=[.s c.name,.s c.svc,.i c.rank,.i c.born,.i c.room,.i c.hold,.s c.sel,.l (c.likes.map Lk.e),.i c.apart,.s c.near,.s c.fixed,.s c.at_] from rfl,show b.e=[.s b.name,.s b.zone,.l (b.marks.map sE),.i b.room,.i b.hold,.b b.shut] from rfl,apL,jC,jD,aI.d7,C.I_i,C.L_l,jW,Mt,jR,hlt,show af=([]:List (List C)) from rfl] at hb1⊢
   rw[hb1]
   simp only[aq,hs1,apL,jC,jD,aI.d6,C.I_i,C.L_l,hw]
   rfl)
  (by
   have hlt:¬(((2^(eD f c b).length:Nat):Int)<((2^(eD f c b).length:Nat):Int)):=by omega
   simp only[Fl.e,Cp.e,Bt.e,jA,jB,apL,jC,jD,aI.d7,C.I_i,C.L_l,hlt,Mu,jS]
   rfl) (2^(eD f c b).length) 0 (by omega)
 simp only[vic,stH,Nf,Option.getD_none,MC,Mr,Fl.e,jA,jB,show c.e=[.s c.name,.s c.svc,.i c.rank,.i c.born,.i c.room,.i c.hold,.s c.sel,.l (c.likes.map Lk.e),.i c.apart,.s c.near,.s c.fixed,.s c.at_] from rfl,show b.e=[.s b.name,.s b.zone,.l (b.marks.map sE),.i b.room,.i b.hold,.b b.shut] from rfl] at h h0
 simp only[show af=([]:List (List C)) from rfl] at h0
 simp only[aI,aI.d10,Fl.e,jA,jB,show c.e=[.s c.name,.s c.svc,.i c.rank,.i c.born,.i c.room,.i c.hold,.s c.sel,.l (c.likes.map Lk.e),.i c.apart,.s c.near,.s c.fixed,.s c.at_] from rfl,show b.e=[.s b.name,.s b.zone,.l (b.marks.map sE),.i b.room,.i b.hold,.b b.shut] from rfl,apL,jC,jD,C.L_l,jW,show af=([]:List (List C)) from rfl,h0,aq,aI.d9,jX,Mt,jR,jY,p1,h,aI.d8,C.B_b,jV]
 rfl
end
end Go.Ev
namespace Go.Ev
def cG (f:Fl) (cn bn:Str):Option (List Str):=
 match f.cps[(cIx f cn).toNat]?,f.bts[(bIx f bn).toNat]? with
 |some c,some b=>bif bl f&&(decide (0<=cIx f cn)&&(decide (0<=bIx f bn)&&sEq c.at_ (mkS []))) then kn f c b else none
 |_,_=>none
section
variable {f:Fl} (hz:f.Sz 1048576) (cn bn:Str)
include hz
theorem u9:fG (f.e++[.s cn,.s bn])=some [.b (cG f cn bn).isSome,.l (((cG f cn bn).getD []).map sE)]:=by
 have h1:=kz f cn hz.2.2.1
 have h2:=jj f bn hz.1.1
 have h3:=jx hz
 simp only[Fl.e,jA,jB] at h1 h2 h3
 simp only[fG,fG.d1,Fl.e,jA,jB,apL,jC,jD,h1,h2,h3,ad,jI,C.I_i,C.B_b,C.L_l,C.S_s,jW,cG]
 rcases qK f cn with h|⟨i,hi,e1,_⟩
 ·have:¬0<=cIx f cn:=by omega
  simp only[h,this,Mt,Mu,jZ,jS,Nk,Nl]
  split<;>rfl
 have n1:¬((i:Int)<0):=by omega
 rcases pA f bn with h|⟨j,hj,e2,_⟩
 ·have:¬0<=bIx f bn:=by omega
  simp only[e1,n1,h,this,Mt,Mu,jZ,ja,jS,jR,Nk,Nl]
  split<;>rfl
 have n2:¬((j:Int)<0):=by omega
 have mi:=Mq hi
 have mj:=Mq hj
 have q0:(((f.cps[i].e.getD 11 C.nil).S).toList==(bs #[]).toList)=sEq f.cps[i].at_ (mkS []):=rfl
 simp only[e1,e2,n1,n2,jY,Mg hi,Mg hj,Mu,Mt,ja,jR,jX,ltL hi,ltL hj,getD_map' Cp.e hi,getD_map' Bt.e hj,Mx,q0]
 cases ha:sEq f.cps[i].at_ (mkS []) with
 |false=>simp
 |true=>
  cases hv:bl f with
  |false=>rfl
  |true=>
   have hV:=Ak hz (hz.2.2.2 _ mi) (hz.1.2 _ mj) ((fB hv).bb _ mj) hv (lr (fB hv) _ mi) (ly (fB hv) _ mi) (vg (fB hv) _ mi)
   simp only[Fl.e,Cp.e,Bt.e,jA,jB] at hV
   simp only[Cp.e,Bt.e,jC,jD,jZ,ja,jR,jS,hV,call3,jI,C.B_b,C.L_l,jV,Bool.and_self]
theorem uZ:fK (f.e++[.s cn,.s bn])=some [.b (cG f cn bn).isSome,.l (((cG f cn bn).getD []).map sE)]:=by
 have h1:=gj f cn hz.2.2.1
 have h2:=ko f bn hz.1.1
 have h3:=fq hz
 simp only[Fl.e,jA,jB] at h1 h2 h3
 simp only[fK,fK.d1,Fl.e,jA,jB,apL,jC,jD,h1,h2,h3,ad,jI,C.I_i,C.B_b,C.L_l,C.S_s,jW,cG]
 cases hv:bl f with
 |false=>simp only[ja,jZ,Nk,jS];split<;>rfl
 |true=>
  simp only[jZ,ja,jR,Mx]
  rcases qK f cn with h|⟨i,hi,e1,_⟩
  ·have:¬0<=cIx f cn:=by omega
   simp only[h,this,Mt,Mu,jZ,jS,Nk,Nl]
   split<;>rfl
  have n1:¬((i:Int)<0):=by omega
  rcases pA f bn with h|⟨j,hj,e2,_⟩
  ·have:¬0<=bIx f bn:=by omega
   simp only[e1,n1,h,this,Mt,Mu,jZ,ja,jS,jR,Nk,Nl]
   split<;>rfl
  have n2:¬((j:Int)<0):=by omega
  have mi:=Mq hi
  have mj:=Mq hj
  have q0:(((f.cps[i].e.getD 11 C.nil).S).toList==(bs #[]).toList)=sEq f.cps[i].at_ (mkS []):=rfl
  simp only[e1,e2,n1,n2,jY,Mg hi,Mg hj,Mu,Mt,ja,jR,jX,ltL hi,ltL hj,getD_map' Cp.e hi,getD_map' Bt.e hj,Mx,q0]
  cases ha:sEq f.cps[i].at_ (mkS []) with
  |false=>rfl
  |true=>
   have hV:=zz hz (hz.2.2.2 _ mi) (hz.1.2 _ mj) ((fB hv).bb _ mj) hv (lr (fB hv) _ mi) (ly (fB hv) _ mi)
   simp only[Fl.e,Cp.e,Bt.e,jA,jB] at hV
   simp only[Cp.e,Bt.e,jC,jD,jZ,ja,jR,jS,hV,call2,jI,C.B_b,C.L_l,jV]
end
theorem CN {f:Fl} (hz:f.Sz 1048576) (cn bn:Str):((cG f cn bn).getD []).length<=1048576:=by
 unfold cG
 split
 ·rename_i c b _ _
  generalize (bl f&&_)=q
  cases q with
  |false=>simp
  |true=>exact MR (sh f c b _).len hz.2.2.1
 ·simp
end Go.Ev
namespace Go.Ev
theorem G4 {f:Fl} (h:bl f=true) (d i:Nat) (hj:i+d+1<f.bts.length):sLt (f.bts[i]'(by omega)).name f.bts[i+d+1].name=true:=by
 refine EB (lt:=fun a b:Bt=>sLt a.name b.name) (fun a b c=>AR) (fun i hi=>?_) d i hj
 simp only[bl,Mk] at h
 have:=(cj _ _ _).1 h.2.2.2.2.2.1 (i+1) (Nat.zero_le _) (by omega)
 have hi':i<f.bts.length:=by omega
 have e:(i+1==0)=false:=rfl
 simp only[btA,Mg hi,Nat.add_sub_cancel,Mg hi',e,Nj,Mk] at this
 exact this.2
theorem Dq {f:Fl} (h:bl f=true) {b:Bt} (hb:b∈f.bts):∃k,∃hk:k<f.bts.length,bIx f b.name=(k:Nat)/\f.bts[k]=b:=by
 have key:∀(i k:Nat) (hi:i<f.bts.length) (hk:k<f.bts.length),i<k->sEq f.bts[i].name f.bts[k].name=true->False:=by
  intro i k hi hk hlt he
  obtain ⟨d,rfl⟩:∃d,k=i+d+1:=⟨k-i-1,by omega⟩
  have:=G4 h d i hk
  rw[(dc _ _).1 he,tV] at this
  exact absurd this (by decide)
 rcases pA f b.name with h1|⟨k,hk,h1,e⟩
 ·have:=pP _ _ _ h1
  have h2:f.bts.any (fun x:Bt=>sEq x.name b.name)=true:=Nh.2 ⟨b,hb,(dc _ _).2 rfl⟩
  rw[this] at h2;cases h2
 ·obtain ⟨j,hj,rfl⟩:=List.getElem_of_mem hb
  refine ⟨k,hk,h1,?_⟩
  rcases Nat.lt_trichotomy k j with q|q|q
  ·exact (key k j hk hj q e).elim
  ·subst q;rfl
  ·exact (key j k hj hk q (by rw[nq];exact e)).elim
abbrev FSt:=Option (Bt×List Str)
def LA (f:Fl) (c:Cp) (b:Bt) (l:List Str) (b0:Bt) (l0:List Str):Bool:=
 decide (0<gH ltI (dC f l) (dC f l0))||(gH ltI (dC f l) (dC f l0)==0&&!better f.pack (oJ (goF f l) c b) (oJ (goF f l0) c b0))
def Jg (f:Fl) (c:Cp) (st:FSt) (b:Bt):FSt:=match kn f c b with
 |none=>st
 |some l=>match st with
  |none=>some (b,l)
  |some (b0,l0)=>bif LA f c b l b0 l0 then st else some (b,l)
def force (f:Fl) (c:Cp):Nat->FSt
 |0=>none
 |i+1=>match f.bts[i]? with|some b=>Jg f c (force f c i) b|none=>force f c i
theorem ce (c:Cp):c.e=[.s c.name,.s c.svc,.i c.rank,.i c.born,.i c.room,.i c.hold,.s c.sel,.l (c.likes.map Lk.e),.i c.apart,.s c.near,.s c.fixed,.s c.at_]:=rfl
theorem be (b:Bt):b.e=[.s b.name,.s b.zone,.l (b.marks.map sE),.i b.room,.i b.hold,.b b.shut]:=rfl
theorem fe (f:Fl):f.e=[.b f.pack,.l (f.bts.map Bt.e),.l (f.svs.map Sv.e),.l (f.cps.map Cp.e)]:=rfl
section
variable {f:Fl} (hz:f.Sz 1048576) {c:Cp} (hc:c.Sz 1048576) (hv:bl f=true) (hr:0<=c.room/\c.room<=1000) (hh:0<=c.hold/\c.hold<=1000) (ha:0<=c.apart/\c.apart<=2)
include hz hc hv hr hh ha
end
end Go.Ev
namespace Go.Ev
theorem Bz {α β:Type} {q:List β} {g:β->Option α} {out:α->List C} {body:List C->R} {S:Nat->List C} {b:Nat} {ys:List C}
  (hs:∀i (h:i<q.length),body (S i)=match g q[i] with|some x=>some (.ret (out x))|none=>some (.again (S (i+1)))) (he:body (S q.length)=some (.brk b ys)):
  ∀k i,k+i=q.length->lim body (S i)=match (q.drop i).findSome? g with|some x=>some (.ret (out x))|none=>some (.brk b ys)
 |0,i,h=>by
  have:i=q.length:=by omega
  subst this
  rw[aR he,List.drop_length];rfl
 |k+1,i,h=>by
  have hi:i<q.length:=by omega
  have hb:=hs i hi
  rw[MU hi,List.findSome?_cons]
  cases hg:g q[i] with
  |some x=>rw[hg] at hb;rw[js hb]
  |none=>rw[hg] at hb;rw[aD hb,Bz hs he k (i+1) (by omega)]
abbrev Stp:=Str×Str×List Str
def DP (f:Fl) (c:Cp):Option Stp:=bif sEq (iY f c) (mkS []) then none else some (c.name,iY f c,[])
def JH (r:Option Stp):List C:=match r with|some (a,b,l)=>[.s a,.s b,.b true,.l (l.map sE)]|none=>[.s (mkS []),.s (mkS []),.b false,.l []]
def KM (x:Stp):List C:=[.s x.1,.s x.2.1,.b true,.l (x.2.2.map sE)]
section
variable {f:Fl} (hz:f.Sz 1048576) (hv:bl f=true)
include hz hv
theorem tO:eH f.e=some (JH ((queue f).findSome? (DP f))):=by
 have hq:=ui hz (fB hv)
 have hql:(queue f).length<=60:=by
  rw[(pY f).length_eq]
  exact MR (Np _ _) (fB hv).n60
 have hqm:∀x,x∈queue f->x∈f.cps:=fun x hx=>(wz hx).1
 generalize queue f=q at hq hql hqm⊢
 have hlb:q.length<big:=by simp only[big];omega
 have h1:=Bz (q:=q) (g:=DP f) (out:=KM) (body:=apn 9 eH.d1) (S:=fun i=>[C.i (i:Nat)]++f.e++[C.s (mkS []),C.s (mkS []),C.l ((q.map Cp.name).map sE),C.l []]) (b:=0) (ys:=[C.s (mkS []),C.s (mkS []),C.l []])
  (fun i hi=>by
   have m:=hqm _ (Mq hi)
   have hi':i<(q.map Cp.name).length:=by simpa using hi
   have hgn:((q.map Cp.name).map sE).getD i []=sE q[i].name:=by rw[getD_map' sE hi'];simp
   obtain ⟨k,hk,k1,k2⟩:=rH (nW hv) m
   have hcix:=gj f q[i].name hz.2.2.1
   rw[k1] at hcix
   have hC:=Af hz (hz.2.2.2 _ m) (fB hv) (lr (fB hv) _ m) (ly (fB hv) _ m) (vg (fB hv) _ m)
   have q0:((iY f q[i]).toList==(bs #[]).toList)=sEq (iY f q[i]) (mkS []):=rfl
   simp only[fe,ce,jA,jB] at hC hcix
   simp only[fe,jA,jB,apL,jC,jD,eH.d1,C.I_i,C.L_l,jW,ltL hi,Mt,jR,jX,jY,hgn,w1 hi hlb]
   simp only[sE,jC,hcix,ad,jI,C.I_i,jX,Mt,jR,ltL hk,jY,getD_map' Cp.e hk,k2]
   simp only[ce,jC,jD,hC,jI,C.S_s,q0,DP,KM]
   cases sEq (iY f q[i]) (mkS [])<;>simp[sE])
  (by simp[eH.d1,fe]) q.length 0 rfl
 simp only[fe] at hq
 simp only[fe,jA,jB,Mr,Nb] at h1
 simp only[eH,eH.d3,fe,apL,jC,jD,hq,ad,jI,C.L_l,show af=([]:List (List C)) from rfl,show bs #[]=mkS [] from rfl,h1]
 cases q.findSome? (DP f) with
 |some x=>simp[JH,KM]
 |none=>simp[eH.d2,JH,show bs #[]=mkS [] from rfl]
end
def nxA (r:Option Stp):Str:=match r with|some x=>x.1|none=>mkS []
def nxB (r:Option Stp):Str:=match r with|some x=>x.2.1|none=>mkS []
def nxG (r:Option Stp):List Str:=match r with|some x=>x.2.2|none=>[]
theorem FW (r:Option Stp):JH r=[.s (nxA r),.s (nxB r),.b r.isSome,.l ((nxG r).map sE)]:=by cases r<;>rfl
end Go.Ev
