/- Proved here: the law FnPilotSpareCard of the given program answers true at every input, and leaves the input as it was; no condition. This text: lemmas on the way (an evaluator of the program's code, sound once for all; the functions it prints; plain proofs on these). -/
import Derived.Test.YtephnkjnbnjicaaGreatDoorP4
set_option linter.all false
set_option autoImplicit false
set_option maxRecDepth 8000
namespace Go.Ev
theorem xS (G:List C→Option (List C)) (k:Int) (b:Nat) (s:Str) (x y z:C) {m:Nat} (hm:s.size≤m) (hb:m≤1048576):∃s':Str,apn 6 (bu.d1 G) [.i b,.s s,.i k,x,y,z]=some (.ret [.s s'])∧s'.size≤m+2:=by
 have e0:∃j:Int,mn [.i k]=some [.i j]:=by
  simp only[mn,mn.d1,apL,jC,C.I_i]
  cases k==5<;>cases k==4<;>exact ⟨_,rfl⟩
 obtain ⟨j,hj⟩:=e0
 have s1:(bs #[40]).size=1:=rfl
 have s2:(bs #[41]).size=1:=rfl
 have s3:(bs #[40]++s).size=1+s.size:=by rw[ByteArray.size_append];rfl
 have s4:((bs #[40]++s)++bs #[41]).size=1+s.size+1:=by rw[ByteArray.size_append,s3];rfl
 have c1:1+s.size≤4294967296:=by omega
 have c2:1+s.size+1≤4294967296:=by omega
 simp only[apL,jC,jD,bu.d1,hj,ad,jI,C.I_i,C.S_s,s1,s2,s3,c1,c2,decide_true,jR]
 cases decide (j<(b:Int)) with
 |true=>exact ⟨_,rfl,by rw[s4];omega⟩
 |false=>exact ⟨_,rfl,by omega⟩
theorem ze {s:Str} (h:bd s=true):s.size≤20:=by
 simp only[bd,Bool.and_eq_true,within,decide_eq_true_eq] at h
 omega
theorem qM {N K:List (List C)} (hN:N.length≤1048576) (hK:K.length≤1048576):∀(k:Nat) (t:Tr) (o:Nat) (r r':List (List C)) (b:Nat),t.depth<k→t.Wf→t.sz≤1000→N.drop o=t.flat++r→K.drop o=t.kids o++r'→
  ∃s:Str,bu.g k 0 [.l N,.l K,.i (o+t.sz-1:Nat),.i b]=some [.s s]∧s.size≤50*t.sz
 |0,t,o,r,r',b,h,_,_,_,_=>by omega
 |k+1,t,o,r,r',b,h,hok,hsz,hd,hd'=>by
  have hs:∀x,bu.g (k+1) 0 x=bu.step (bu.g k 0) x:=fun _=>rfl
  rw[hs]
  simp only[bu.step,bu.d2,apL,jC,jD,C.I_i,C.L_l,jY]
  cases t with
  |lf kd n v=>
   obtain ⟨h1,h2,_⟩:=drop_cons (show N.drop o=node kd n v 0::r from hd)
   have e:o+(Tr.lf kd n v).sz-1=o:=by simp[Tr.sz]
   have hg:N.getD o []=node kd n v 0:=by rw[List.getD_eq_getElem?_getD,List.getElem?_eq_getElem h1,h2];rfl
   have e1:((o:Int)<(N.length:Int)):=by omega
   simp only[e,hg,node,jC,jD,C.I_i,C.S_s,e1,decide_true,jR,jX]
   have hn:=ze hok.1
   rcases hok.2 with ⟨rfl,rfl⟩|⟨rfl,hv⟩
   ·obtain ⟨s',h3,h4⟩:=xS (bu.g k 0) ((1:Nat):Int) b (mkS n) (.s (mkS n)) (.s (mkS [])) (.i ((0:Nat):Int)) hn (by omega)
    refine ⟨s',?_,by simp only[Tr.sz];omega⟩
    simp only[show (((1:Nat):Int)==1)=true from rfl,jR,jJ]
    rw[h3];rfl
   ·have hv:=ze hv
    have s1:(bs #[61]).size=1:=rfl
    have s2:(mkS n++bs #[61]).size=(mkS n).size+1:=by rw[ByteArray.size_append];rfl
    have s3:((mkS n++bs #[61])++mkS v).size=(mkS n).size+1+(mkS v).size:=by rw[ByteArray.size_append,s2]
    obtain ⟨s',h3,h4⟩:=xS (bu.g k 0) ((2:Nat):Int) b ((mkS n++bs #[61])++mkS v) (.s (mkS n)) (.s (mkS v)) (.i ((0:Nat):Int)) (m:=41) (by rw[s3];omega) (by omega)
    refine ⟨s',?_,by simp only[Tr.sz];omega⟩
    have c1:(mkS n).size+1≤4294967296:=by omega
    have c2:(mkS n).size+1+(mkS v).size≤4294967296:=by omega
    simp only[show (((2:Nat):Int)==1)=false from rfl,show (((2:Nat):Int)==2)=true from rfl,jR,jS,s1,s2,c1,c2,decide_true,jJ]
    rw[h3];rfl
  |un t=>
   simp only[Tr.depth] at h
   simp only[Tr.sz] at hsz
   have hn:N.drop o=t.flat++(node 3 [] [] 1::r):=by rw[hd];simp[Tr.flat]
   have hk:K.drop o=t.kids o++([.l [[.i (o+t.sz-1:Nat)]]]::r'):=by rw[hd'];simp[Tr.kids]
   obtain ⟨s1,ih,hz⟩:=qM hN hK k t o _ _ 3 (by omega) hok (by omega) hn hk
   obtain ⟨h1,h2⟩:=iX hn
   obtain ⟨h3,h4⟩:=iX hk
   rw[t.ck] at h1
   rw[t.cO] at h3
   have h2:N[o+t.sz]=node 3 [] [] 1:=by simp only[t.ck] at h2;exact h2
   have h4:K[o+t.sz]=[.l [[.i (o+t.sz-1:Nat)]]]:=by simp only[t.cO] at h4;exact h4
   have e:o+(Tr.un t).sz-1=o+t.sz:=by simp[Tr.sz]
   have hg:N.getD (o+t.sz) []=node 3 [] [] 1:=by rw[List.getD_eq_getElem?_getD,List.getElem?_eq_getElem h1,h2];rfl
   have hg':K.getD (o+t.sz) []=[.l [[.i (o+t.sz-1:Nat)]]]:=by rw[List.getD_eq_getElem?_getD,List.getElem?_eq_getElem h3,h4];rfl
   have e1:(((o+t.sz:Nat):Int)<(N.length:Int)):=by omega
   have e2:(((o+t.sz:Nat):Int)<(K.length:Int)):=by omega
   have e3:(0:Int)<((([[C.i ((o+t.sz-1:Nat):Int)]]:List (List C)).length:Nat):Int):=by simp
   have z1:(bs #[33]).size=1:=rfl
   have z2:(bs #[33]++s1).size=1+s1.size:=by rw[ByteArray.size_append];rfl
   have c1:1+s1.size≤4294967296:=by omega
   have ih':bu.g k 0 [.l N,.l K,.i (o+t.sz-1:Nat),.i 3]=some [.s s1]:=ih
   obtain ⟨s',q1,q2⟩:=xS (bu.g k 0) ((3:Nat):Int) b (bs #[33]++s1) (.s (mkS [])) (.s (mkS [])) (.i ((1:Nat):Int)) (m:=50*t.sz+1) (by rw[z2];omega) (by omega)
   refine ⟨s',?_,by simp only[Tr.sz];omega⟩
   simp only[e,hg,hg',node,jC,jD,C.I_i,C.L_l,C.S_s,e1,e2,e3,decide_true,jR,jS,jX,show (((3:Nat):Int)==1)=false from rfl,show (((3:Nat):Int)==2)=false from rfl,show (((3:Nat):Int)==3)=true from rfl,ih',ad,jI,z1,c1,jJ]
   rw[q1];rfl
  |bn kd a b'=>
   simp only[Tr.depth] at h
   simp only[Tr.sz] at hsz
   have hw:(kd=4∨kd=5)∧a.Wf∧b'.Wf:=hok
   have hn:N.drop o=a.flat++(b'.flat++(node kd [] [] 2::r)):=by rw[hd];simp[Tr.flat]
   have hn2:N.drop (o+a.sz)=b'.flat++(node kd [] [] 2::r):=by rw[←List.drop_drop,hn,←a.ck];simp
   have hk:K.drop o=a.kids o++(b'.kids (o+a.sz)++([.l [[.i (o+a.sz-1:Nat)],[.i (o+a.sz+b'.sz-1:Nat)]]]::r')):=by rw[hd'];simp[Tr.kids]
   have hk2:K.drop (o+a.sz)=b'.kids (o+a.sz)++([.l [[.i (o+a.sz-1:Nat)],[.i (o+a.sz+b'.sz-1:Nat)]]]::r'):=by
    rw[←List.drop_drop,hk,←a.cO o];simp
   obtain ⟨h1,h2⟩:=iX hn2
   obtain ⟨h3,h4⟩:=iX hk2
   rw[b'.ck] at h1
   rw[b'.cO] at h3
   have h2:N[o+a.sz+b'.sz]=node kd [] [] 2:=by simp only[b'.ck] at h2;exact h2
   have h4:K[o+a.sz+b'.sz]=[.l [[.i (o+a.sz-1:Nat)],[.i (o+a.sz+b'.sz-1:Nat)]]]:=by simp only[b'.cO] at h4;exact h4
   have e:o+(Tr.bn kd a b').sz-1=o+a.sz+b'.sz:=by simp only[Tr.sz];omega
   have hg:N.getD (o+a.sz+b'.sz) []=node kd [] [] 2:=by rw[List.getD_eq_getElem?_getD,List.getElem?_eq_getElem h1,h2];rfl
   have hg':K.getD (o+a.sz+b'.sz) []=[.l [[.i (o+a.sz-1:Nat)],[.i (o+a.sz+b'.sz-1:Nat)]]]:=by rw[List.getD_eq_getElem?_getD,List.getElem?_eq_getElem h3,h4];rfl
   have e1:(((o+a.sz+b'.sz:Nat):Int)<(N.length:Int)):=by omega
   have e2:(((o+a.sz+b'.sz:Nat):Int)<(K.length:Int)):=by omega
   have e3:(0:Int)<((([[C.i ((o+a.sz-1:Nat):Int)],[C.i ((o+a.sz+b'.sz-1:Nat):Int)]]:List (List C)).length:Nat):Int):=by simp
   have e4:(1:Int)<((([[C.i ((o+a.sz-1:Nat):Int)],[C.i ((o+a.sz+b'.sz-1:Nat):Int)]]:List (List C)).length:Nat):Int):=by simp
   rcases hw.1 with rfl|rfl
   ·obtain ⟨s1,iha,ha⟩:=qM hN hK k a o _ _ 2 (by omega) hw.2.1 (by omega) hn hk
    obtain ⟨s2,ihb,hb⟩:=qM hN hK k b' (o+a.sz) _ _ 3 (by omega) hw.2.2 (by omega) hn2 hk2
    have iha:bu.g k 0 [.l N,.l K,.i (o+a.sz-1:Nat),.i 2]=some [.s s1]:=iha
    have ihb:bu.g k 0 [.l N,.l K,.i (o+a.sz+b'.sz-1:Nat),.i 3]=some [.s s2]:=ihb
    have z1:(bs #[32,38,32]).size=3:=rfl
    have z2:(s1++bs #[32,38,32]).size=s1.size+3:=by rw[ByteArray.size_append];rfl
    have z3:((s1++bs #[32,38,32])++s2).size=s1.size+3+s2.size:=by rw[ByteArray.size_append,z2]
    have c1:s1.size+3≤4294967296:=by omega
    have c2:s1.size+3+s2.size≤4294967296:=by omega
    obtain ⟨s',q1,q2⟩:=xS (bu.g k 0) ((4:Nat):Int) b ((s1++bs #[32,38,32])++s2) (.s (mkS [])) (.s (mkS [])) (.i ((2:Nat):Int)) (m:=50*a.sz+50*b'.sz+3) (by rw[z3];omega) (by omega)
    refine ⟨s',?_,by simp only[Tr.sz];omega⟩
    simp only[e,hg,hg',node,jC,jD,C.I_i,C.L_l,C.S_s,e1,e2,e3,e4,decide_true,jR,jS,jX,show (((4:Nat):Int)==1)=false from rfl,show (((4:Nat):Int)==2)=false from rfl,show (((4:Nat):Int)==3)=false from rfl,show (((4:Nat):Int)==4)=true from rfl,iha,ihb,ad,jI,z1,z2,c1,c2,jJ]
    rw[q1];rfl
   ·obtain ⟨s1,iha,ha⟩:=qM hN hK k a o _ _ 1 (by omega) hw.2.1 (by omega) hn hk
    obtain ⟨s2,ihb,hb⟩:=qM hN hK k b' (o+a.sz) _ _ 2 (by omega) hw.2.2 (by omega) hn2 hk2
    have iha:bu.g k 0 [.l N,.l K,.i (o+a.sz-1:Nat),.i 1]=some [.s s1]:=iha
    have ihb:bu.g k 0 [.l N,.l K,.i (o+a.sz+b'.sz-1:Nat),.i 2]=some [.s s2]:=ihb
    have z1:(bs #[32,124,32]).size=3:=rfl
    have z2:(s1++bs #[32,124,32]).size=s1.size+3:=by rw[ByteArray.size_append];rfl
    have z3:((s1++bs #[32,124,32])++s2).size=s1.size+3+s2.size:=by rw[ByteArray.size_append,z2]
    have c1:s1.size+3≤4294967296:=by omega
    have c2:s1.size+3+s2.size≤4294967296:=by omega
    obtain ⟨s',q1,q2⟩:=xS (bu.g k 0) ((5:Nat):Int) b ((s1++bs #[32,124,32])++s2) (.s (mkS [])) (.s (mkS [])) (.i ((2:Nat):Int)) (m:=50*a.sz+50*b'.sz+3) (by rw[z3];omega) (by omega)
    refine ⟨s',?_,by simp only[Tr.sz];omega⟩
    simp only[e,hg,hg',node,jC,jD,C.I_i,C.L_l,C.S_s,e1,e2,e3,e4,decide_true,jR,jS,jX,show (((5:Nat):Int)==1)=false from rfl,show (((5:Nat):Int)==2)=false from rfl,show (((5:Nat):Int)==3)=false from rfl,show (((5:Nat):Int)==4)=false from rfl,show (((5:Nat):Int)==5)=true from rfl,iha,ihb,ad,jI,z1,z2,c1,c2,jJ]
    rw[q1];rfl
theorem IH {t:Tr} (ht:t.sz≤400) (hw:t.Wf):∃s:Str,gD [.l t.flat]=some [.s s]∧s.size≤200:=by
 have hF:=lu
 have hp:=t.rH
 have hd:=t.l8
 have hw1:w64 ((t.flat.length:Int)-1)=((0+t.sz-1:Nat):Int):=by rw[t.ck,aQ (by omega) (by omega)];omega
 obtain ⟨s,h1,h2⟩:=qM (N:=t.flat) (K:=t.kids 0) (by rw[t.ck];omega) (by rw[t.cO];omega) iD t 0 [] [] 1 (by omega) hw (by omega) (by simp) (by simp)
 have h1:bu [.l t.flat,.l (t.kids 0),.i (0+t.sz-1:Nat),.i 1]=some [.s s]:=h1
 simp only[gD,gD.d1,apL,jC,jD,tB t ht (.inl hw),ad,call2,jI,C.B_b,jj t (by omega),C.L_l,hw1,h1,C.S_s]
 cases decide (t.depth≤20) with
 |false=>exact ⟨_,rfl,by decide⟩
 |true=>
  simp only[jZ,jS]
  by_cases hs:(s.size:Int)>200
  ·simp only[hs,decide_true,jR,jV];exact ⟨_,rfl,by decide⟩
  ·simp only[hs,decide_false,jS,jV];exact ⟨_,rfl,by omega⟩
end Go.Ev
namespace Go.Ev
section
variable {bs:List (List C)} (hb:BY bs) (hl:bs.length≤2000)
include hb hl
theorem HW {p:Int} (h0:0≤p) (h1:p≤1125899906842624):∃n:Tok,l6 [.l bs,.i p]=some [.s (mkS n),.l bs,.i (p+1)]∧bd (mkS n)=true:=by
 obtain ⟨k,hk,e⟩:=bc hb hl h0 h1 (n:=8) (by omega) (by omega)
 have hk:k<8:=by omega
 have q:((k:Int)<8):=by omega
 simp only[l6,l6.d1,apL,jC,jD,e,call3,jI,C.I_i,jX,decide_true,jR]
 rcases k with _|_|_|_|_|_|_|_|k
 ·exact ⟨[115,115,100],rfl,by decide⟩
 ·exact ⟨[111,108,100],rfl,by decide⟩
 ·exact ⟨[103,112,117],rfl,by decide⟩
 ·exact ⟨[122,111,110,101],rfl,by decide⟩
 ·exact ⟨[99,111,108,111,114],rfl,by decide⟩
 ·exact ⟨[97],rfl,by decide⟩
 ·exact ⟨[98,45,49],rfl,by decide⟩
 ·exact ⟨[120,95,50],rfl,by decide⟩
 ·omega
theorem Im {p:Int} (h0:0≤p) (h1:p≤1125899906842624-4):∃(t:Tr) (p':Int),jM [.l bs,.i p]=some [.l bs,.i p',.l t.flat]∧t.Wf∧t.sz=1∧p≤p'∧p'≤p+3:=by
 obtain ⟨k,hk,e⟩:=bc hb hl h0 (show p≤1125899906842624 by omega) (n:=2) (by omega) (by omega)
 simp only[jM,jM.d1,apL,jC,jD,e,call3,jI,C.I_i]
 cases hq:((k:Int)==0) with
 |true=>
  obtain ⟨n,e2,hn⟩:=HW hb hl (p:=p+1) (by omega) (by omega)
  simp only[jR,e2,jI,jC,jD,jV]
  exact ⟨.lf 1 n [],p+1+1,rfl,⟨hn,.inl ⟨rfl,rfl⟩⟩,rfl,by omega,by omega⟩
 |false=>
  obtain ⟨i,hi,e2⟩:=bc hb hl (p:=p+1) (n:=3) (by omega) (by omega) (by omega) (by omega)
  obtain ⟨j,hj,e3⟩:=bc hb hl (p:=p+1+1) (n:=4) (by omega) (by omega) (by omega) (by omega)
  simp only[jS,e2,e3,jI,jC,jD,C.I_i,jX,decide_true,jR]
  have hv:∃v:Tok,((rows [[C.s (Go.Ev.bs #[101,97,115,116])],[C.s (Go.Ev.bs #[119,101,115,116])],[C.s (Go.Ev.bs #[114,101,100])],[C.s (Go.Ev.bs #[97])]]).getD (j:Int).toNat []).getD 0 .nil=.s (mkS v)∧bd (mkS v)=true:=by
   rcases j with _|_|_|_|j
   ·exact ⟨[101,97,115,116],rfl,by decide⟩
   ·exact ⟨[119,101,115,116],rfl,by decide⟩
   ·exact ⟨[114,101,100],rfl,by decide⟩
   ·exact ⟨[97],rfl,by decide⟩
   ·omega
  have hn:∃v:Tok,((rows [[C.s (Go.Ev.bs #[122,111,110,101])],[C.s (Go.Ev.bs #[99,111,108,111,114])],[C.s (Go.Ev.bs #[115,115,100])]]).getD (i:Int).toNat []).getD 0 .nil=.s (mkS v)∧bd (mkS v)=true:=by
   rcases i with _|_|_|i
   ·exact ⟨[122,111,110,101],rfl,by decide⟩
   ·exact ⟨[99,111,108,111,114],rfl,by decide⟩
   ·exact ⟨[115,115,100],rfl,by decide⟩
   ·omega
  obtain ⟨v,v1,v2⟩:=hv
  obtain ⟨n,n1,n2⟩:=hn
  rw[v1,n1]
  have q1:decide ((i:Int)<((rows [[C.s (Go.Ev.bs #[122,111,110,101])],[C.s (Go.Ev.bs #[99,111,108,111,114])],[C.s (Go.Ev.bs #[115,115,100])]]).length:Int))=true:=by
   show decide ((i:Int)<3)=true
   simp;omega
  have q2:decide ((j:Int)<((rows [[C.s (Go.Ev.bs #[101,97,115,116])],[C.s (Go.Ev.bs #[119,101,115,116])],[C.s (Go.Ev.bs #[114,101,100])],[C.s (Go.Ev.bs #[97])]]).length:Int))=true:=by
   show decide ((j:Int)<4)=true
   simp;omega
  rw[q1,q2]
  exact ⟨.lf 2 n v,p+1+1+1,rfl,⟨n2,.inr ⟨rfl,v2⟩⟩,rfl,by omega,by omega⟩
theorem Aw:∀(k d:Nat) (p:Int),d<k→d≤6→0≤p→p+(8*2^d:Nat)≤1125899906842624-10→∃(t:Tr) (p':Int),ei.g k 0 [.i d,.l bs,.i p]=some [.l bs,.i p',.l t.flat]∧t.Wf∧t.sz+1≤2^(d+1)∧p≤p'∧p'≤p+(8*2^d-2:Nat)
 |0,d,p,h,_,_,_=>by omega
 |k+1,d,p,h,h6,h0,h1=>by
  have hs:∀x,ei.g (k+1) 0 x=ei.step (ei.g k 0) x:=fun _=>rfl
  rw[hs]
  have hpow:2^d≤64∧1≤2^d:=by
   have:=Nat.pow_le_pow_right (show 0<2 by decide) h6
   exact ⟨by simpa using this,Nat.one_le_two_pow⟩
  simp only[ei.step,ei.d1,apL,jC,jD,C.I_i]
  have leaf:∀q:Int,p≤q→q≤p+1→∃(t:Tr) (p':Int),aY (call3 (jM [.l bs,.i q]) fun g h i=>some (.ret [g,h,.l i.L]))=some [.l bs,.i p',.l t.flat]∧t.Wf∧t.sz+1≤2^(d+1)∧p≤p'∧p'≤p+(8*2^d-2:Nat):=fun q q0 q1=>by
   obtain ⟨t,p',e,a1,a2,a3,a4⟩:=Im hb hl (p:=q) (by omega) (by omega)
   refine ⟨t,p',by simp only[e,call3,jI,jC,jD,C.L_l,jV],a1,?_,by omega,by omega⟩
   rw[a2,Nat.pow_succ];omega
  cases hd:decide ((d:Int)≤0) with
  |true=>simp only[jZ,jS];exact leaf p (by omega) (by omega)
  |false=>
   have hd:¬((d:Int)≤0):=by simpa using hd
   obtain ⟨i,hi,e⟩:=bc hb hl h0 (show p≤1125899906842624 by omega) (n:=3) (by omega) (by omega)
   simp only[ja,jR,e,call3,jI,jC,jD,C.I_i]
   cases hq:((i:Int)==0) with
   |true=>simp only[jR];exact leaf (p+1) (by omega) (by omega)
   |false=>
    obtain ⟨j,hj,e2⟩:=bc hb hl (p:=p+1) (n:=3) (by omega) (by omega) (by omega) (by omega)
    obtain ⟨d',rfl⟩:∃d',d=d'+1:=⟨d-1,by omega⟩
    have hw:w64 (((d'+1:Nat):Int)-1)=(d':Int):=by rw[aQ (by omega) (by omega)];omega
    have hp2:2^(d'+1)=2*2^d':=by rw[Nat.pow_succ];omega
    have hp3:2^(d'+1+1)=4*2^d':=by rw[Nat.pow_succ,hp2];omega
    obtain ⟨t1,p1,g1,a1,a2,a3,a4⟩:=Aw k d' (p+1+1) (by omega) (by omega) (by omega) (by omega)
    have hpd:1≤2^d':=Nat.one_le_two_pow
    obtain ⟨t2,p2,g2,b1,b2,b3,b4⟩:=Aw k d' p1 (by omega) (by omega) (by omega) (by omega)
    have l1:=t1.ck
    have l2:=t2.ck
    have o1:=Ef 3 1 t1.flat (by omega)
    have o2:=AI 4 2 t1.flat t2.flat (by omega)
    have o3:=AI 5 2 t1.flat t2.flat (by omega)
    simp only[jS,e2,jI,jC,jD,C.I_i,hw,g1,C.L_l]
    cases hj0:((j:Int)==0) with
    |true=>
     simp only[jR,o1,call2,jI,jC,jD,C.L_l,jV]
     exact ⟨.un t1,p1,rfl,a1,by simp only[Tr.sz];omega,by omega,by omega⟩
    |false=>
     simp only[jS,g2,jI,jC,jD,C.L_l]
     cases hj1:((j:Int)==1) with
     |true=>
      simp only[jR,o2,call2,jI,jC,jD,C.L_l,jV]
      exact ⟨.bn 4 t1 t2,p2,rfl,⟨.inl rfl,a1,b1⟩,by simp only[Tr.sz];omega,by omega,by omega⟩
     |false=>
      simp only[jS,o3,call2,jI,jC,jD,C.L_l,jV]
      exact ⟨.bn 5 t1 t2,p2,rfl,⟨.inr rfl,a1,b1⟩,by simp only[Tr.sz];omega,by omega,by omega⟩
theorem Hf {p:Int} (h0:0≤p) (h1:p≤1125899906842624-2000):∃(s:Str) (p':Int),eQ [.l bs,.i p]=some [.s s,.l bs,.i p']∧s.size≤200∧p≤p'∧p'≤p+40:=by
 obtain ⟨k,hk,e⟩:=bc hb hl h0 (show p≤1125899906842624 by omega) (n:=2) (by omega) (by omega)
 simp only[eQ,eQ.d1,apL,jC,jD,e,call3,jI,C.I_i]
 cases hq:((k:Int)==0) with
 |true=>simp only[jR,jV];exact ⟨_,_,rfl,by decide,by omega,by omega⟩
 |false=>
  obtain ⟨i,hi,e2⟩:=bc hb hl (p:=p+1) (n:=3) (by omega) (by omega) (by omega) (by omega)
  simp only[jS,e2,jI,jC,jD,C.I_i]
  cases hq2:((i:Int)==0) with
  |true=>
   obtain ⟨j,hj,e3⟩:=bc hb hl (p:=p+1+1) (n:=6) (by omega) (by omega) (by omega) (by omega)
   simp only[jR,e3,jI,jC,jD,C.I_i,jX,decide_true]
   rcases j with _|_|_|_|_|_|j
   ·exact ⟨_,_,rfl,by decide,by omega,by omega⟩
   ·exact ⟨_,_,rfl,by decide,by omega,by omega⟩
   ·exact ⟨_,_,rfl,by decide,by omega,by omega⟩
   ·exact ⟨_,_,rfl,by decide,by omega,by omega⟩
   ·exact ⟨_,_,rfl,by decide,by omega,by omega⟩
   ·exact ⟨_,_,rfl,by decide,by omega,by omega⟩
   ·omega
  |false=>
   have hF:=lu
   obtain ⟨t,p',g,a1,a2,a3,a4⟩:=Aw hb hl iD 2 (p+1+1) (by omega) (by omega) (by omega) (by omega)
   have g:ei [.i 2,.l bs,.i (p+1+1)]=some [.l bs,.i p',.l t.flat]:=g
   obtain ⟨s,s1,s2⟩:=IH (t:=t) (by omega) a1
   simp only[jS,g,s1,ad,jI,jC,jD,C.L_l,jV]
   exact ⟨s,p',rfl,s2,by omega,by omega⟩
end
theorem Hg:∀(k n:Nat),n<k→n≤1000→∃s:Str,dS.g k 0 [.i n]=some [.s s]∧s.size≤n+1
 |0,n,h,_=>by omega
 |k+1,n,h,hn=>by
  have hs:∀x,dS.g (k+1) 0 x=dS.step (dS.g k 0) x:=fun _=>rfl
  rw[hs]
  have n0:¬((n:Int)<0):=by omega
  simp only[dS.step,dS.d1,apL,jC,C.I_i,n0,decide_false,jS]
  have mb:∀x:C,(kV (rows [[x]])).size=1:=fun _=>rfl
  by_cases h10:(n:Int)<10
  ·simp only[h10,decide_true,jR,jV]
   exact ⟨_,rfl,by rw[mb];omega⟩
  ·have e:(n:Int).tdiv 10=((n/10:Nat):Int):=by rw[Int.tdiv_eq_ediv_of_nonneg (by omega)];omega
   have w:w64 ((n:Int).tdiv 10)=((n/10:Nat):Int):=by rw[e,aQ (by omega) (by omega)]
   obtain ⟨s,g,hz⟩:=Hg k (n/10) (by omega) (by omega)
   have c1:s.size+1≤4294967296:=by omega
   simp only[h10,decide_false,jS,w,g,ad,jI,jC,C.S_s,mb,c1,decide_true,jR,jV]
   exact ⟨_,rfl,by rw[ByteArray.size_append,mb];omega⟩
theorem Eg {n:Nat} (hn:n≤1000):∃s:Str,dS [.i n]=some [.s s]∧s.size≤n+1:=Hg iD n (by have:=lu;omega) hn
end Go.Ev
namespace Go.Ev
def S20 (ms:List Str):Prop:=∀m,m∈ms→m.size≤20
theorem S20.HE {ms:List Str} (h:S20 ms) {x:Str} (hx:x.size≤20):S20 (ms++[x]):=fun m hm=>by
 rcases List.mem_append.1 hm with hm|hm
 ·exact h m hm
 ·rw[List.mem_singleton.1 hm];exact hx
theorem wi (ms:List Str) (x:Str):ms.map sE++[[C.s x]]=(ms++[x]).map sE:=by simp[sE]
section
variable {bs:List (List C)} (hb:BY bs) (hl:bs.length≤2000)
include hb hl
theorem IX {ms:List Str} (h:S20 ms) (hm:ms.length≤10) {p:Int} (h0:0≤p) (h1:p≤1125899906842624-10):
  ∃(ms':List Str) (p':Int),apn 3 cP.d1 [.l bs,.i p,.l (ms.map sE)]=some (.ret [.l bs,.i p',.l (ms'.map sE)])∧S20 ms'∧ms'.length≤ms.length+1∧p≤p'∧p'≤p+2:=by
 obtain ⟨k,hk,e⟩:=bc hb hl h0 (show p≤1125899906842624 by omega) (n:=2) (by omega) (by omega)
 simp only[cP.d1,apL,jC,jD,e,call3,jI,C.I_i,C.L_l,jW]
 cases hq:((k:Int)==0) with
 |false=>simp only[jS];exact ⟨ms,p+1,rfl,h,by omega,by omega,by omega⟩
 |true=>
  obtain ⟨j,hj,e2⟩:=bc hb hl (p:=p+1) (n:=2) (by omega) (by omega) (by omega) (by omega)
  simp only[jR,e2,jI,jC,jD,C.I_i,jX,decide_true]
  have c1:ms.length+1≤4294967296:=by omega
  rcases j with _|_|j
  ·refine ⟨ms++[Go.Ev.bs #[115,115,100]],p+1+1,?_,h.HE (by decide),by simp,by omega,by omega⟩
   rw[←wi]
   simp[rows,c1]
  ·refine ⟨ms++[Go.Ev.bs #[115,115,100,61,97]],p+1+1,?_,h.HE (by decide),by simp,by omega,by omega⟩
   rw[←wi]
   simp[rows,c1]
  ·omega
theorem IW {ms:List Str} (h:S20 ms) (hm:ms.length≤9) {p:Int} (h0:0≤p) (h1:p≤1125899906842624-20):
  ∃(ms':List Str) (p':Int),apn 3 cP.d2 [.l bs,.i p,.l (ms.map sE)]=some (.ret [.l bs,.i p',.l (ms'.map sE)])∧S20 ms'∧ms'.length≤ms.length+2∧p≤p'∧p'≤p+3:=by
 obtain ⟨k,hk,e⟩:=bc hb hl h0 (show p≤1125899906842624 by omega) (n:=3) (by omega) (by omega)
 have c1:ms.length+1≤4294967296:=by omega
 simp only[cP.d2,apL,jC,jD,e,call3,jI,C.I_i,C.L_l,jW,rows,List.length_cons,List.length_nil,Nat.zero_add,c1,decide_true,jR]
 cases hq:((k:Int)==0) with
 |false=>
  obtain ⟨ms',p',g,a1,a2,a3,a4⟩:=IX hb hl h (by omega) (p:=p+1) (by omega) (by omega)
  simp only[jS,jJ]
  exact ⟨ms',p',g,a1,by omega,by omega,by omega⟩
 |true=>
  obtain ⟨ms',p',g,a1,a2,a3,a4⟩:=IX hb hl (ms:=ms++[Go.Ev.bs #[111,108,100]]) (h.HE (by decide)) (by simp;omega) (p:=p+1) (by omega) (by omega)
  simp only[jR,jJ,wi]
  simp only[List.length_append,List.length_cons,List.length_nil] at a2
  exact ⟨ms',p',g,a1,by omega,by omega,by omega⟩
theorem Gi {ms:List Str} (h:S20 ms) (hm:ms.length≤8) {p:Int} (h0:0≤p) (h1:p≤1125899906842624-30):
  ∃(ms':List Str) (p':Int),apn 3 cP.d3 [.l bs,.i p,.l (ms.map sE)]=some (.ret [.l bs,.i p',.l (ms'.map sE)])∧S20 ms'∧ms'.length≤ms.length+3∧p≤p'∧p'≤p+4:=by
 obtain ⟨k,hk,e⟩:=bc hb hl h0 (show p≤1125899906842624 by omega) (n:=3) (by omega) (by omega)
 have c1:ms.length+1≤4294967296:=by omega
 simp only[cP.d3,apL,jC,jD,e,call3,jI,C.I_i,C.L_l,jW,rows,List.length_cons,List.length_nil,Nat.zero_add,c1,decide_true,jR]
 cases hq:((k:Int)==0) with
 |false=>
  obtain ⟨ms',p',g,a1,a2,a3,a4⟩:=IW hb hl h (by omega) (p:=p+1) (by omega) (by omega)
  simp only[jS,jJ]
  exact ⟨ms',p',g,a1,by omega,by omega,by omega⟩
 |true=>
  obtain ⟨ms',p',g,a1,a2,a3,a4⟩:=IW hb hl (ms:=ms++[Go.Ev.bs #[103,112,117]]) (h.HE (by decide)) (by simp;omega) (p:=p+1) (by omega) (by omega)
  simp only[jR,jJ,wi]
  simp only[List.length_append,List.length_cons,List.length_nil] at a2
  exact ⟨ms',p',g,a1,by omega,by omega,by omega⟩
theorem FV {p:Int} (h0:0≤p) (h1:p≤1125899906842624-40):
  ∃(ms:List Str) (p':Int),cP [.l bs,.i p]=some [.l bs,.i p',.l (ms.map sE)]∧S20 ms∧ms.length≤10∧p≤p'∧p'≤p+6:=by
 obtain ⟨k,hk,e⟩:=bc hb hl h0 (show p≤1125899906842624 by omega) (n:=2) (by omega) (by omega)
 simp only[cP,cP.d4,apL,jC,jD,e,call3,jI,C.I_i]
 cases hq:((k:Int)==0) with
 |false=>
  obtain ⟨ms',p',g,a1,a2,a3,a4⟩:=Gi hb hl (ms:=[]) (fun _ h=>by simp at h) (by simp) (p:=p+1) (by omega) (by omega)
  have g:apn 3 cP.d3 [.l bs,.i (p+1),.l af]=_:=g
  simp only[jS,jJ,g,jV]
  simp only[List.length_nil] at a2
  exact ⟨ms',p',rfl,a1,by omega,by omega,by omega⟩
 |true=>
  obtain ⟨j,hj,e2⟩:=bc hb hl (p:=p+1) (n:=2) (by omega) (by omega) (by omega) (by omega)
  simp only[jR,e2,jI,jC,jD,C.I_i,jX,decide_true]
  rcases j with _|_|j
  ·obtain ⟨ms',p',g,a1,a2,a3,a4⟩:=Gi hb hl (ms:=[Go.Ev.bs #[99,111,108,111,114,61]++Go.Ev.bs #[114,101,100]]) (fun m h=>by rw[List.mem_singleton.1 h];decide) (by simp) (p:=p+1+1) (by omega) (by omega)
   simp only[List.map_cons,List.map_nil,sE,List.length_cons,List.length_nil] at g a2
   have g':aY (apn 3 cP.d3 [.l bs,.i (p+1+1),.l [[.s (Go.Ev.bs #[99,111,108,111,114,61]++Go.Ev.bs #[114,101,100])]]])=some [.l bs,.i p',.l (ms'.map sE)]:=by rw[g];rfl
   exact ⟨ms',p',g',a1,by omega,by omega,by omega⟩
  ·obtain ⟨ms',p',g,a1,a2,a3,a4⟩:=Gi hb hl (ms:=[Go.Ev.bs #[99,111,108,111,114,61]++Go.Ev.bs #[97]]) (fun m h=>by rw[List.mem_singleton.1 h];decide) (by simp) (p:=p+1+1) (by omega) (by omega)
   simp only[List.map_cons,List.map_nil,sE,List.length_cons,List.length_nil] at g a2
   have g':aY (apn 3 cP.d3 [.l bs,.i (p+1+1),.l [[.s (Go.Ev.bs #[99,111,108,111,114,61]++Go.Ev.bs #[97])]]])=some [.l bs,.i p',.l (ms'.map sE)]:=by rw[g];rfl
   exact ⟨ms',p',g',a1,by omega,by omega,by omega⟩
  ·omega
theorem G3 {nm:Str} (hn:nm.size≤100) {p:Int} (h0:0≤p) (h1:p≤1125899906842624-100):
  ∃(b:Bt) (p':Int),gg [.s nm,.l bs,.i p]=some [.s b.name,.s b.zone,.i b.room,.i b.hold,.b b.shut,.l bs,.i p',.l (b.marks.map sE)]∧b.name=nm∧b.Sz 1000∧p≤p'∧p'≤p+10:=by
 obtain ⟨k,hk,e⟩:=bc hb hl h0 (show p≤1125899906842624 by omega) (n:=3) (by omega) (by omega)
 obtain ⟨ms,p1,g,a1,a2,a3,a4⟩:=FV hb hl (p:=p+1) (by omega) (by omega)
 obtain ⟨r,hr,e2⟩:=bc hb hl (p:=p1) (n:=20) (by omega) (by omega) (by omega) (by omega)
 obtain ⟨h,hh,e3⟩:=bc hb hl (p:=p1+1) (n:=20) (by omega) (by omega) (by omega) (by omega)
 obtain ⟨s,hs,e4⟩:=bc hb hl (p:=p1+1+1) (n:=10) (by omega) (by omega) (by omega) (by omega)
 simp only[gg,gg.d1,apL,jC,jD,e,g,e2,e3,e4,call3,jI,C.I_i,C.L_l,jX,decide_true,jR]
 have key:∀z:Str,z.size≤20→∃(b:Bt) (p':Int),some [C.s nm,C.s z,C.i (w64 (4+(r:Int))),C.i (w64 (4+(h:Int))),C.b ((s:Int)==0),C.l bs,C.i (p1+1+1+1),C.l (ms.map sE)]=some [.s b.name,.s b.zone,.i b.room,.i b.hold,.b b.shut,.l bs,.i p',.l (b.marks.map sE)]∧b.name=nm∧b.Sz 1000∧p≤p'∧p'≤p+10:=fun z hz=>
  ⟨⟨nm,z,ms,_,_,_⟩,p1+1+1+1,rfl,rfl,⟨by show nm.size≤1000;omega,by show z.size≤1000;omega,by show ms.length≤1000;omega,fun m hm=>Nat.le_trans (a1 m hm) (by decide)⟩,by omega,by omega⟩
 rcases k with _|_|_|k
 ·exact key _ (show (Go.Ev.bs #[101,97,115,116]).size≤20 by decide)
 ·exact key _ (show (Go.Ev.bs #[119,101,115,116]).size≤20 by decide)
 ·exact key _ (show (Go.Ev.bs #[110,111,114,116,104]).size≤20 by decide)
 ·omega
theorem xA (a e f g h i j k l m n o q r s t u v w x y z a0:C):∀(c:Nat) (b p:Int) (L:List Lk),b≤c→-10≤b→c≤10→0≤p→p≤1125899906842624-10000+(0-100)*c→L.length+c≤20→(∀x,x∈L→x.sel.size≤200)→
  ∃(L':List Lk) (p':Int),lim (apn 28 cf.d1) [a,.i b,.l bs,.i p,e,f,g,h,i,j,k,l,m,n,o,q,r,s,t,u,v,w,x,y,z,a0,.l [],.l (L.map Lk.e)]=some (.brk 0 [a,.l bs,.i p',e,f,g,h,i,j,k,l,m,n,o,q,r,s,t,u,v,w,x,y,z,a0,.l [],.l (L'.map Lk.e)])∧L'.length≤20∧(∀x,x∈L'→x.sel.size≤200)∧p≤p'∧p'≤p+50*c
 |c,b,p,L,hbc,hb0,hc,h0,h1,hL,hz=>by
  by_cases hpos:b>0
  ·obtain ⟨c',rfl⟩:∃c',c=c'+1:=⟨c-1,by omega⟩
   obtain ⟨sl,p1,g1,a1,a2,a3⟩:=Hf hb hl (p:=p) h0 (by omega)
   obtain ⟨wt,hw,g2⟩:=bc hb hl (p:=p1) (n:=19) (by omega) (by omega) (by omega) (by omega)
   have ww:w64 (b-1)=b-1:=aQ (by omega) (by omega)
   have c1:L.length+1≤4294967296:=by omega
   have hstep:apn 28 cf.d1 [a,.i b,.l bs,.i p,e,f,g,h,i,j,k,l,m,n,o,q,r,s,t,u,v,w,x,y,z,a0,.l [],.l (L.map Lk.e)]=some (.again [a,.i (b-1),.l bs,.i (p1+1),e,f,g,h,i,j,k,l,m,n,o,q,r,s,t,u,v,w,x,y,z,a0,.l [],.l ((L++[Lk.mk sl (w64 ((wt:Int)-9))]).map Lk.e)]):=by
    simp only[apL,jC,jD,cf.d1,C.I_i,hpos,decide_true,jR,g1,g2,call3,jI,C.L_l,jW,rows,List.length_cons,List.length_nil,Nat.zero_add,c1,ww,List.map_append,List.map_cons,List.map_nil,Lk.e]
   rw[aI hstep]
   obtain ⟨L',p',q1,q2,q3,q4,q5⟩:=xA a e f g h i j k l m n o q r s t u v w x y z a0 c' (b-1) (p1+1) (L++[Lk.mk sl (w64 ((wt:Int)-9))]) (by omega) (by omega) (by omega) (by omega) (by omega) (by simp;omega) (fun y hy=>by
    rcases List.mem_append.1 hy with hy|hy
    ·exact hz y hy
    ·rw[List.mem_singleton.1 hy];exact a1)
   exact ⟨L',p',q1,q2,q3,by omega,by omega⟩
  ·refine ⟨L,p,aU ?_,by omega,hz,by omega,by omega⟩
   simp only[apL,jC,jD,cf.d1,C.I_i,hpos,decide_false,jS,C.L_l]
end
end Go.Ev
namespace Go.Ev
section
variable {bs:List (List C)} (hb:BY bs) (hl:bs.length≤2000)
include hb hl
end
end Go.Ev
namespace Go.Ev
theorem IY {l:List Cp} (nm:Str) {body:List C→R} {S:Nat→List C} (hs:∀i (h:i<l.length),body (S i)=if sLt l[i].name nm=true then some (.again (S (i+1))) else some (.brk 5 (S i))) (he:body (S l.length)=some (.brk 5 (S l.length))):
  ∀d i,i+d=l.length→∃j,j≤l.length∧lim body (S i)=some (.brk 5 (S j))
 |0,i,h=>by
  have:i=l.length:=by omega
  subst this
  exact ⟨_,Nat.le_refl _,aU he⟩
 |d+1,i,h=>by
  have hi:i<l.length:=by omega
  by_cases hc:sLt l[i].name nm=true
  ·obtain ⟨j,a,b⟩:=IY nm hs he d (i+1) (by omega)
   exact ⟨j,a,by rw[aI (by rw[hs i hi,if_pos hc])];exact b⟩
  ·exact ⟨i,by omega,aU (by rw[hs i hi,if_neg hc])⟩
section
variable {f:Fl} (hz:f.Sz 1048576)
include hz
end
end Go.Ev
namespace Go.Ev
section
variable {f:Fl} (hz:f.Sz 1048576)
include hz
end
structure Dr (bts:List Bt) (svs:List Sv) (pk:Bool) (f:Fl):Prop where
 b:f.bts=bts
 s:f.svs=svs
 p:f.pack=pk
 n:f.cps.length≤60
 z:∀c,c∈f.cps→c.Sz 1000
 v:f.cps=[]∨bO f=true
theorem Cp.Sz.up {c:Cp} (h:c.Sz 1000):c.Sz 1048576:=⟨by have:=h.1;omega,by have:=h.2.1;omega,by have:=h.2.2.1;omega,by have:=h.2.2.2.1;omega,by have:=h.2.2.2.2.1;omega,by have:=h.2.2.2.2.2.1;omega,by have:=h.2.2.2.2.2.2.1;omega,fun x hx=>Nat.le_trans (h.2.2.2.2.2.2.2 x hx) (by decide)⟩
theorem Bt.Sz.up {b:Bt} (h:b.Sz 1000):b.Sz 1048576:=⟨by have:=h.1;omega,by have:=h.2.1;omega,by have:=h.2.2.1;omega,fun x hx=>Nat.le_trans (h.2.2.2 x hx) (by decide)⟩
theorem Fl.Sz.up {f:Fl} (h:f.Sz 1000):f.Sz 1048576:=⟨⟨by have:=h.1.1;omega,fun b hb=>(h.1.2 b hb).up⟩,⟨by have:=h.2.1.1;omega,fun s hs=>Nat.le_trans (h.2.1.2 s hs) (by decide)⟩,by have:=h.2.2.1;omega,fun c hc=>(h.2.2.2 c hc).up⟩
section
variable {bts:List Bt} {svs:List Sv} {pk:Bool} (hbt:bts.length≤12∧∀b,b∈bts→b.Sz 1000) (hsv:svs.length≤30∧∀s,s∈svs→s.Sz 1000)
include hbt hsv
theorem Dr.szD {f:Fl} (D:Dr bts svs pk f):f.Sz 1000:=by
 refine ⟨?_,?_,by have:=D.n;omega,D.z⟩
 ·rw[D.b];exact ⟨by omega,hbt.2⟩
 ·rw[D.s];exact ⟨by omega,hsv.2⟩
end
end Go.Ev
namespace Go.Ev
section
variable {bs:List (List C)} (hb:BY bs) (hl:bs.length≤2000)
include hb hl
theorem JW (pk:Bool):∀(d n:Nat) (L:List Bt) (p:Int),n=L.length+d→n≤10→(∀b,b∈L→b.Sz 1000)→0≤p→p≤1125899906842624-40000+(0-100)*d→
  ∃(L':List Bt) (p':Int),lim (apn 12 aN.d1) [.i n,.i L.length,.l bs,.i p,.b false,.b pk,.l [],.l [],.l [],.l (L.map Bt.e),.l [],.l []]=some (.brk 0 [.l bs,.i p',.b false,.b pk,.l [],.l [],.l [],.l (L'.map Bt.e),.l [],.l []])∧L'.length=n∧(∀b,b∈L'→b.Sz 1000)∧p≤p'∧p'≤p+10*d:=by
 intro d
 induction d with
 |zero=>
  intro n L p hn hn10 hL h0 h1
  refine ⟨L,p,aU ?_,by omega,hL,by omega,by omega⟩
  have:¬((L.length:Int)<(n:Int)):=by omega
  simp only[apL,jC,jD,aN.d1,C.I_i,this,decide_false,jS,C.L_l]
 |succ d ih=>
  intro n L p hn hn10 hL h0 h1
  obtain ⟨s,g2,hs⟩:=Eg (n:=L.length) (by omega)
  have b1:(Go.Ev.bs #[98]).size=1:=rfl
  obtain ⟨b,p1,g1,a1,a2,a3,a4⟩:=G3 hb hl (nm:=Go.Ev.bs #[98]++s) (by rw[ByteArray.size_append,b1];omega) (p:=p) h0 (by omega)
  have c0:(L.length:Int)<(n:Int):=by omega
  have c1:1+s.size≤4294967296:=by omega
  have c2:L.length+1≤4294967296:=by omega
  have ww:w64 ((L.length:Int)+1)=(((L++[b]).length:Nat):Int):=by rw[aQ (by omega) (by omega)];simp
  obtain ⟨L',p',q1,q2,q3,q4,q5⟩:=ih n (L++[b]) p1 (by simp;omega) hn10 (fun x hx=>by
   rcases List.mem_append.1 hx with hx|hx
   ·exact hL x hx
   ·rw[List.mem_singleton.1 hx];exact a2) (by omega) (by omega)
  refine ⟨L',p',?_,q2,q3,by omega,by omega⟩
  rw[←q1]
  apply aI
  simp only[apL,jC,jD,aN.d1,C.I_i,c0,decide_true,jR,g2,ad,jI,C.S_s,b1,c1,g1,call8,C.L_l,jW,rows,List.length_cons,List.length_nil,Nat.zero_add,c2,ww,List.map_append,List.map_cons,List.map_nil,Bt.e]
theorem J0 (pk:Bool) (bt:List (List C)):∀(d:Nat) (L:List Sv) (p:Int),L.length+d=4→(∀s,s∈L→s.Sz 1000)→0≤p→p≤1125899906842624-40000+(0-100)*d→
  ∃(L':List Sv) (p':Int),lim (apn 11 aN.d2) [.i L.length,.l bs,.i p,.b false,.b pk,.l [],.l [],.l [],.l bt,.l (L.map Sv.e),.l []]=some (.brk 2 [.l bs,.i p',.b false,.b pk,.l [],.l [],.l [],.l bt,.l (L'.map Sv.e),.l []])∧L'.length=4∧(∀s,s∈L'→s.Sz 1000)∧p≤p'∧p'≤p+10*d:=by
 intro d
 induction d with
 |zero=>
  intro L p hn hL h0 h1
  refine ⟨L,p,aU ?_,by omega,hL,by omega,by omega⟩
  have:¬((L.length:Int)<4):=by omega
  simp only[apL,jC,jD,aN.d2,C.I_i,this,decide_false,jS,C.L_l]
 |succ d ih=>
  intro L p hn hL h0 h1
  obtain ⟨k,hk,e⟩:=bc hb hl h0 (show p≤1125899906842624 by omega) (n:=5) (by omega) (by omega)
  have c0:(L.length:Int)<4:=by omega
  have c2:L.length+1≤4294967296:=by omega
  have hsv:∃sv:Str,((rows [[C.s (Go.Ev.bs #[99,97,99,104,101])],[C.s (Go.Ev.bs #[100,98])],[C.s (Go.Ev.bs #[106,111,98])],[C.s (Go.Ev.bs #[119,101,98])]]).getD L.length []).getD 0 .nil=.s sv∧sv.size≤10:=by
   generalize L.length=n at c0
   rcases n with _|_|_|_|n
   ·exact ⟨_,rfl,by decide⟩
   ·exact ⟨_,rfl,by decide⟩
   ·exact ⟨_,rfl,by decide⟩
   ·exact ⟨_,rfl,by decide⟩
   ·omega
  obtain ⟨sv,v1,v2⟩:=hsv
  have l1:(L.length:Int)<((rows [[C.s (Go.Ev.bs #[99,97,99,104,101])],[C.s (Go.Ev.bs #[100,98])],[C.s (Go.Ev.bs #[106,111,98])],[C.s (Go.Ev.bs #[119,101,98])]]).length:Int):=c0
  have ww:w64 ((L.length:Int)+1)=(((L++[(⟨sv,k⟩:Sv)]).length:Nat):Int):=by rw[aQ (by omega) (by omega)];simp
  obtain ⟨L',p',q1,q2,q3,q4,q5⟩:=ih (L++[⟨sv,k⟩]) (p+1) (by simp;omega) (fun x hx=>by
   rcases List.mem_append.1 hx with hx|hx
   ·exact hL x hx
   ·rw[List.mem_singleton.1 hx];show sv.size≤1000;omega) (by omega) (by omega)
  refine ⟨L',p',?_,q2,q3,by omega,by omega⟩
  rw[←q1]
  apply aI
  simp only[apL,jC,jD,aN.d2,C.I_i,c0,l1,decide_true,jR,jX,jY,v1,e,call3,jI,C.L_l,jW]
  simp only[rows,List.length_cons,List.length_nil,Nat.zero_add,c2,ww,List.map_append,List.map_cons,List.map_nil,Sv.e,decide_true,jR]
section
variable {bts:List Bt} {svs:List Sv} {pk:Bool} (hbt:bts.length≤12∧∀b,b∈bts→b.Sz 1000) (hsv:svs.length≤30∧∀s,s∈svs→s.Sz 1000)
include hbt hsv
end
end
end Go.Ev
namespace Go.Ev
section
variable {bs:List (List C)} (hb:BY bs) (hl:bs.length≤2000)
include hb hl
section
variable {bts:List Bt} {svs:List Sv} {pk:Bool} (hbt:(1≤bts.length∧bts.length≤12)∧∀b,b∈bts→b.Sz 1000) (hsv:svs.length≤30∧∀s,s∈svs→s.Sz 1000)
include hbt hsv
end
end
end Go.Ev
namespace Go.Ev
theorem FB:∀(m n:Nat) (x acc:Str),n≤m→acc.size+n*x.size≤400→x.size≤800→n≤1000→
  ∃s:Str,lim (apn 3 eO.d1) [.s x,.i n,.s acc]=some (.brk 0 [.s s])∧s.size≤400:=by
 intro m
 induction m with
 |zero=>
  intro n x acc hn h1 h2 h3
  obtain rfl:n=0:=by omega
  exact ⟨acc,aU rfl,by omega⟩
 |succ m ih=>
  intro n x acc hn h1 h2 h3
  by_cases h0:n=0
  ·subst h0;exact ⟨acc,aU rfl,by omega⟩
  ·have c0:((n:Int)>0):=by omega
   have hx:x.size≤400:=by
    have:1*x.size≤n*x.size:=Nat.mul_le_mul_right _ (by omega)
    omega
   have hd:n=2*(n/2)+n%2:=by omega
   have w:w64 ((n:Int).tdiv 2)=((n/2:Nat):Int):=by
    rw[show (n:Int).tdiv 2=((n/2:Nat):Int) by rw[Int.tdiv_eq_ediv_of_nonneg (by omega)];omega,aQ (by omega) (by omega)]
   have t:(n:Int).tmod 2=((n%2:Nat):Int):=by rw[Int.tmod_eq_emod_of_nonneg (by omega)];omega
   have hs:(x++x).size=x.size+x.size:=ByteArray.size_append
   have hm:n*x.size=n/2*(x.size+x.size)+n%2*x.size:=by
    conv=>lhs;rw[hd]
    rw[Nat.add_mul,Nat.mul_add,Nat.mul_assoc,Nat.two_mul]
   have c1:x.size+x.size≤4294967296:=by omega
   have c2:acc.size+x.size≤4294967296:=by omega
   rcases Nat.mod_two_eq_zero_or_one n with e|e
   ·obtain ⟨s,g1,g2⟩:=ih (n/2) (x++x) acc (by omega) (by rw[hs];rw[e] at hm;omega) (by rw[hs];omega) (by omega)
    refine ⟨s,?_,g2⟩
    rw[←g1]
    apply aI
    simp only[apL,jC,jD,eO.d1,C.I_i,C.S_s,c0,decide_true,jR,t,e,w,c1,show (((0:Nat):Int)==1)=false from rfl,jS]
   ·obtain ⟨s,g1,g2⟩:=ih (n/2) (x++x) (acc++x) (by omega) (by rw[hs,ByteArray.size_append];rw[e] at hm;omega) (by rw[hs];omega) (by omega)
    refine ⟨s,?_,g2⟩
    rw[←g1]
    apply aI
    simp only[apL,jC,jD,eO.d1,C.I_i,C.S_s,c0,decide_true,jR,t,e,w,c1,c2,show (((1:Nat):Int)==1)=true from rfl]
theorem Ea (x:Str) (n:Nat) (h1:n≤300) (h2:x.size=1):∃s:Str,eO [.s x,.i n]=some [.s s]∧s.size≤400:=by
 have e0:(Go.Ev.bs #[]).size=0:=rfl
 obtain ⟨s,g1,g2⟩:=FB n n x (Go.Ev.bs #[]) (by omega) (by rw[e0,h2];omega) (by omega) (by omega)
 refine ⟨s,?_,g2⟩
 simp only[eO,eO.d3,apL,jC,jD,g1,au,eO.d2]
 rfl
section
variable {bs:List (List C)} (hb:BY bs) (hl:bs.length≤2000)
include hb hl
theorem HP (pk:Bool) (sv:List (List C)) (p:Int):∀(d:Nat) (L:List Bt),L.length+d=2→(∀b,b∈L→b.Sz 1000)→
  ∃L':List Bt,lim (apn 11 cN.d1) [.i L.length,.l bs,.i p,.b false,.b pk,.l [],.l [],.l [],.l (L.map Bt.e),.l sv,.l []]=some (.brk 0 [.l bs,.i p,.b false,.b pk,.l [],.l [],.l [],.l (L'.map Bt.e),.l sv,.l []])∧L'.length=2∧(∀b,b∈L'→b.Sz 1000):=by
 intro d
 induction d with
 |zero=>
  intro L hn hL
  refine ⟨L,aU ?_,by omega,hL⟩
  have:¬((L.length:Int)<2):=by omega
  simp only[apL,jC,jD,cN.d1,C.I_i,this,decide_false,jS,C.L_l]
 |succ d ih=>
  intro L hn hL
  obtain ⟨s,g2,hs⟩:=Eg (n:=L.length) (by omega)
  have b1:(Go.Ev.bs #[98]).size=1:=rfl
  have c0:(L.length:Int)<2:=by omega
  have c1:1+s.size≤4294967296:=by omega
  have c2:L.length+1≤4294967296:=by omega
  have ww:w64 ((L.length:Int)+1)=(((L++[(⟨Go.Ev.bs #[98]++s,Go.Ev.bs #[101,97,115,116],[],30,30,false⟩:Bt)]).length:Nat):Int):=by rw[aQ (by omega) (by omega)];simp
  obtain ⟨L',q1,q2,q3⟩:=ih (L++[⟨Go.Ev.bs #[98]++s,Go.Ev.bs #[101,97,115,116],[],30,30,false⟩]) (by simp;omega) (fun x hx=>by
   rcases List.mem_append.1 hx with hx|hx
   ·exact hL x hx
   ·rw[List.mem_singleton.1 hx]
    exact ⟨by show (Go.Ev.bs #[98]++s).size≤1000;rw[ByteArray.size_append,b1];omega,by show (Go.Ev.bs #[101,97,115,116]).size≤1000;decide,by show 0≤1000;decide,fun m hm=>by simp at hm⟩)
  refine ⟨L',?_,q2,q3⟩
  rw[←q1]
  apply aI
  simp only[apL,jC,jD,cN.d1,C.I_i,c0,decide_true,jR,g2,ad,jI,C.S_s,b1,c1,C.L_l,jW,rows,List.length_cons,List.length_nil,Nat.zero_add,c2,ww,List.map_append,List.map_cons,List.map_nil,Bt.e,af]
theorem H9 (pk:Bool) (bt sv:List (List C)) (A:Nat) (hA:A≤10):∀(d:Nat) (L:List Cp) (p:Int),L.length+d=A+2→(∀s,s∈L→s.Sz 1000)→0≤p→p≤1125899906842624-1000+(0-10)*d→
  ∃(L':List Cp) (p':Int),lim (apn 12 cN.d2) [.i A,.i L.length,.l bs,.i p,.b false,.b pk,.l [],.l [],.l [],.l bt,.l sv,.l (L.map Cp.e)]=some (.brk 2 [.l bs,.i p',.b false,.b pk,.l [],.l [],.l [],.l bt,.l sv,.l (L'.map Cp.e)])∧L'.length≤20∧(∀s,s∈L'→s.Sz 1000)∧p≤p'∧p'≤p+10*d:=by
 intro d
 have w2:w64 ((A:Int)+2)=(A:Int)+2:=aQ (by omega) (by omega)
 induction d with
 |zero=>
  intro L p hn hL h0 h1
  refine ⟨L,p,aU ?_,by omega,hL,by omega,by omega⟩
  have:¬((L.length:Int)<(A:Int)+2):=by omega
  simp only[apL,jC,jD,cN.d2,C.I_i,w2,this,decide_false,jS,C.L_l]
 |succ d ih=>
  intro L p hn hL h0 h1
  obtain ⟨k,hk,g1⟩:=bc hb hl h0 (show p≤1125899906842624 by omega) (n:=3) (by omega) (by omega)
  obtain ⟨m,hm,g2⟩:=bc hb hl (p:=p+1) (n:=2) (by omega) (by omega) (by omega) (by omega)
  obtain ⟨t,ht,g3⟩:=bc hb hl (p:=p+1+1) (n:=3) (by omega) (by omega) (by omega) (by omega)
  obtain ⟨u,hu,g4⟩:=bc hb hl (p:=p+1+1+1) (n:=4) (by omega) (by omega) (by omega) (by omega)
  have mb:∀x:C,(kV (rows [[x]])).size=1:=fun _=>rfl
  have b1:(Go.Ev.bs #[99]).size=1:=rfl
  have c0:(L.length:Int)<(A:Int)+2:=by omega
  have c2:L.length+1≤4294967296:=by omega
  have c1:1+1≤4294967296:=by omega
  have w:w64 ((L.length:Int)+1)=(((L.length+1:Nat)):Int):=by rw[aQ (by omega) (by omega)];rfl
  have key:∀(c:Cp) (q:Int),c.Sz 1000→p≤q→q≤p+10→∃(L':List Cp) (p':Int),(∃ys,some (Out.again [.i A,.i (L.length+1:Nat),.l bs,.i q,.b false,.b pk,.l [],.l [],.l [],.l bt,.l sv,.l (L.map Cp.e++[c.e])])=some (.again ys)∧lim (apn 12 cN.d2) ys=some (.brk 2 [.l bs,.i p',.b false,.b pk,.l [],.l [],.l [],.l bt,.l sv,.l (L'.map Cp.e)]))∧L'.length≤20∧(∀s,s∈L'→s.Sz 1000)∧p≤p'∧p'≤p+10*(d+1:Nat):=fun c q hc q1 q2=>by
   obtain ⟨L',p',r1,r2,r3,r4,r5⟩:=ih (L++[c]) q (by simp;omega) (fun x hx=>by
    rcases List.mem_append.1 hx with hx|hx
    ·exact hL x hx
    ·rw[List.mem_singleton.1 hx];exact hc) (by omega) (by omega)
   rw[List.length_append,List.map_append] at r1
   exact ⟨L',p',⟨_,rfl,r1⟩,r2,r3,by omega,by omega⟩
  have csz:∀(y:C) (rk rm:Int) (fx a:Str),fx.size≤10→a.size≤10→(Cp.mk (Go.Ev.bs #[99]++kV (rows [[y]])) (Go.Ev.bs #[119,101,98]) rk 0 1 rm (Go.Ev.bs #[]) [] 0 (Go.Ev.bs #[]) fx a).Sz 1000:=fun y rk rm fx a h1 h2=>
   ⟨by show (Go.Ev.bs #[99]++kV (rows [[y]])).size≤1000;rw[ByteArray.size_append,b1,mb];decide,by show (Go.Ev.bs #[119,101,98]).size≤1000;decide,by show (Go.Ev.bs #[]).size≤1000;decide,by show (Go.Ev.bs #[]).size≤1000;decide,by show fx.size≤1000;omega,by show a.size≤1000;omega,by show 0≤1000;decide,fun x hx=>by simp at hx⟩
  have fin:∃(L':List Cp) (p':Int),(∃ys,apn 12 cN.d2 [.i A,.i L.length,.l bs,.i p,.b false,.b pk,.l [],.l [],.l [],.l bt,.l sv,.l (L.map Cp.e)]=some (.again ys)∧lim (apn 12 cN.d2) ys=some (.brk 2 [.l bs,.i p',.b false,.b pk,.l [],.l [],.l [],.l bt,.l sv,.l (L'.map Cp.e)]))∧L'.length≤20∧(∀s,s∈L'→s.Sz 1000)∧p≤p'∧p'≤p+10*(d+1:Nat):=by
   simp only[apL,jC,jD,cN.d2,C.I_i,w2,c0,decide_true,jR,C.S_s,b1,mb,c1,g1,g2,g3,g4,call3,jI,C.L_l,jW,w]
   cases decide ((L.length:Int)<(A:Int)) with
   |true=>
    simp only[jR,rows,List.length_cons,List.length_nil,Nat.zero_add,c2,decide_true]
    exact key (Cp.mk (Go.Ev.bs #[99]++kV (rows [[_]])) (Go.Ev.bs #[119,101,98]) k 0 1 m (Go.Ev.bs #[]) [] 0 (Go.Ev.bs #[]) (Go.Ev.bs #[]) (Go.Ev.bs #[98,48])) _ (csz _ _ _ _ _ (by decide) (by decide)) (by omega) (by omega)
   |false=>
    cases decide ((t:Int)>0) with
    |true=>
     simp only[jR,jS,rows,List.length_cons,List.length_nil,Nat.zero_add,c2,decide_true]
     exact key (Cp.mk (Go.Ev.bs #[99]++kV (rows [[_]])) (Go.Ev.bs #[119,101,98]) (w64 (1+(u:Int))) 0 1 m (Go.Ev.bs #[]) [] 0 (Go.Ev.bs #[]) (Go.Ev.bs #[98,48]) (Go.Ev.bs #[])) _ (csz _ _ _ _ _ (by decide) (by decide)) (by omega) (by omega)
    |false=>
     simp only[jR,jS,rows,List.length_cons,List.length_nil,Nat.zero_add,c2,decide_true]
     exact key (Cp.mk (Go.Ev.bs #[99]++kV (rows [[_]])) (Go.Ev.bs #[119,101,98]) k 0 1 m (Go.Ev.bs #[]) [] 0 (Go.Ev.bs #[]) (Go.Ev.bs #[]) (Go.Ev.bs #[])) _ (csz _ _ _ _ _ (by decide) (by decide)) (by omega) (by omega)
  obtain ⟨L',p',⟨ys,r1,r2⟩,r3⟩:=fin
  exact ⟨L',p',by rw[aI r1,r2],r3⟩
theorem Ie {p:Int} (h0:0≤p) (h1:p≤1125899906842624-70000):
  ∃(f:Fl) (p':Int),cN [.l bs,.i p]=some [.b f.pack,.l bs,.i p',.l (f.bts.map Bt.e),.l (f.svs.map Sv.e),.l (f.cps.map Cp.e)]∧f.Sz 1000∧p≤p'∧p'≤p+30000:=by
 obtain ⟨c,hc,g1⟩:=bc hb hl h0 (show p≤1125899906842624 by omega) (n:=2) (by omega) (by omega)
 obtain ⟨n,hn,g2⟩:=bc hb hl (p:=p+1) (n:=9) (by omega) (by omega) (by omega) (by omega)
 obtain ⟨k,hk,g3⟩:=bc hb hl (p:=p+1+1) (n:=2) (by omega) (by omega) (by omega) (by omega)
 obtain ⟨bts,q1,q2,q3⟩:=HP hb hl ((c:Int)==0) [[.s (Go.Ev.bs #[119,101,98]),.i n]] (p+1+1) 2 [] (by simp) (fun b hb=>by simp at hb)
 have w2:w64 (10-(k:Int))=((10-k:Nat):Int):=by rw[aQ (by omega) (by omega)];omega
 obtain ⟨cps,p',r1,r2,r3,r4,r5⟩:=H9 hb hl ((c:Int)==0) (bts.map Bt.e) [[.s (Go.Ev.bs #[119,101,98]),.i n]] (10-k) (by omega) (10-k+2) [] (p+1+1+1) (by simp) (fun b hb=>by simp at hb) (by omega) (by omega)
 refine ⟨⟨((c:Int)==0),bts,[⟨Go.Ev.bs #[119,101,98],n⟩],cps⟩,p',?_,⟨⟨by show bts.length≤1000;omega,q3⟩,⟨by show 1≤1000;decide,fun s hs=>?_⟩,by show cps.length≤1000;omega,r3⟩,by omega,by omega⟩
 ·simp only[List.map_nil,List.length_nil,Int.natCast_zero] at q1 r1
  simp only[cN,cN.d5,apL,jC,jD,g1,g2,g3,call3,jI,C.I_i,w2,af,rows,q1,au,cN.d4,C.L_l,r1,cN.d3]
  rfl
 ·rw[List.mem_singleton.1 hs];show (Go.Ev.bs #[119,101,98]).size≤1000;decide
end
end Go.Ev
set_option maxHeartbeats 2000000
namespace Go.Ev
abbrev spR (bs:List (List C)) (g:Fl) (p:Int):List C:=[.b g.pack,.l (g.cps.map Cp.e),.l bs,.i p,.l (g.bts.map Bt.e),.l (g.svs.map Sv.e)]
abbrev spN (bs:List (List C)) (g:Fl) (p:Int):R:=some (.nrm [.l bs,.i p,.b false,.b g.pack,.l (g.cps.map Cp.e),.l [],.l [],.l [],.l (g.bts.map Bt.e),.l (g.svs.map Sv.e)])
def Fl.Sq (g:Fl):Prop:=g.Sz 1048576∧g.cps.length≤1000
theorem Ja {bs:List (List C)} {X:R} {a b:Int} (h:∃(g:Fl) (p:Int),X=spN bs g p∧g.Sq∧a≤p∧p≤b):∃(g:Fl) (p:Int),aY (bf X (apn 10 bF.d4))=some (spR bs g p)∧g.Sq∧a≤p∧p≤b:=by
 obtain ⟨g,p,h1,h2⟩:=h
 exact ⟨g,p,by rw[h1];rfl,h2⟩
theorem C1 (L:List Str) (hL:∀s,s∈L→s.size≤400) {x:Nat} (h:x<L.length):∃v:Str,((L.map sE).getD x []).getD 0 .nil=.s v∧v.size≤400:=
 ⟨L[x],by rw[getD_map' sE h];rfl,hL _ (List.getElem_mem h)⟩
theorem FO (L:List Int) {x:Nat} (h:x<L.length):∃v:Int,((L.map fun n=>[C.i n]).getD x []).getD 0 .nil=.i v:=
 ⟨L[x],by rw[getD_map' (fun n=>[C.i n]) h];rfl⟩
theorem Kk (L:List (List Str)) (hL:∀s,s∈L→s.length≤20∧∀m,m∈s→m.size≤20) {x:Nat} (h:x<L.length):∃v:List Str,((L.map fun m=>[C.l (m.map sE)]).getD x []).getD 0 .nil=.l (v.map sE)∧v.length≤20∧∀m,m∈v→m.size≤20:=
 ⟨L[x],by rw[getD_map' (fun m=>[C.l (m.map sE)]) h];rfl,hL _ (List.getElem_mem h)⟩
theorem oW {α:Type} {e:α→List C} {l:List α} {k:Nat} (hk:k<l.length) {i:Nat} {v:List C} {b:α} (h:aE (e l[k]) i v=e b):(l.map e).set k (aE ((l.map e).getD k []) i v)=(l.set k b).map e:=by
 rw[getD_map' e hk,h,List.map_set]
theorem D3 {f:Fl} (hz:f.Sz 1000) {b:Bt} (hb:b.Sz 1048576) (k:Nat):({f with bts:=f.bts.set k b}:Fl).Sq:=
 ⟨⟨⟨by show (f.bts.set k b).length≤_;rw[List.length_set];exact hz.up.1.1,fun x hx=>(List.mem_or_eq_of_mem_set hx).elim (hz.up.1.2 x) (fun h=>h▸hb)⟩,hz.up.2⟩,hz.2.2.1⟩
theorem JU {f:Fl} (hz:f.Sz 1000) {b:Sv} (hb:b.Sz 1048576) (k:Nat):({f with svs:=f.svs.set k b}:Fl).Sq:=
 ⟨⟨hz.up.1,⟨by show (f.svs.set k b).length≤_;rw[List.length_set];exact hz.up.2.1.1,fun x hx=>(List.mem_or_eq_of_mem_set hx).elim (hz.up.2.1.2 x) (fun h=>h▸hb)⟩,hz.up.2.2⟩,hz.2.2.1⟩
theorem vj {f:Fl} (hz:f.Sz 1000) {b:Cp} (hb:b.Sz 1048576) (k:Nat):({f with cps:=f.cps.set k b}:Fl).Sq:=
 ⟨⟨hz.up.1,hz.up.2.1,by show (f.cps.set k b).length≤_;rw[List.length_set];exact hz.up.2.2.1,fun x hx=>(List.mem_or_eq_of_mem_set hx).elim (hz.up.2.2.2 x) (fun h=>h▸hb)⟩,by show (f.cps.set k b).length≤_;rw[List.length_set];exact hz.2.2.1⟩
theorem CP (l:List Cp):List.all (l.map Cp.e) (pF [.str,.str,(.int .i64),(.int .i64),(.int .i64),(.int .i64),.str,(.sl 100),(.int .i64),.str,.str,.str])=true:=by
 rw[List.all_eq_true]
 intro x hx
 obtain ⟨c,_,rfl⟩:=List.mem_map.1 hx
 rfl
theorem trS {l:List Cp} {n:Nat} (h:n<l.length) (x:List C) (y:Lk) (hy:y.e=x):
  ((l.map Cp.e).set n (aE ((l.map Cp.e).getD n []) 7 [.nil])).set n (aE (((l.map Cp.e).set n (aE ((l.map Cp.e).getD n []) 7 [.nil])).getD n []) 7 [.l ((((l.map Cp.e).getD n []).getD 7 .nil).L++[x])])=(l.set n {l[n] with likes:=l[n].likes++[y]}).map Cp.e:=by
 have h0:n<(l.map Cp.e).length:=by rw[jW];exact h
 rw[List.set_set]
 have h1:((l.map Cp.e).set n (aE ((l.map Cp.e).getD n []) 7 [.nil])).getD n []=aE ((l.map Cp.e).getD n []) 7 [.nil]:=by
  rw[List.getD_eq_getElem?_getD,List.getElem?_set_self h0];rfl
 rw[h1,getD_map' Cp.e h,List.map_set]
 congr 1
 simp only[Cp.e,aE,jC,jD,C.L_l,List.map_append,List.map_cons,List.map_nil,hy]
 rfl
section
variable {bs:List (List C)} (hb:BY bs) (hl:bs.length≤2000)
include hb hl
theorem Ka (pk:Bool) (bt sv:List (List C)) (n B:Nat) (hB:B≤20):∀(d:Nat) (l:List Cp) (p:Int) (hn:n<l.length),B≤l[n].likes.length+d→d≤20→(∀c,c∈l→c.Sz 1048576)→0≤p→p≤1125899906842624-1000+(0-10)*d→
  ∃(l':List Cp) (p':Int),lim (apn 12 bF.d1) [.i n,.i B,.l bs,.i p,.b false,.b pk,.l [],.l [],.l [],.l bt,.l sv,.l (l.map Cp.e)]=some (.brk 1 [.l bs,.i p',.b false,.b pk,.l [],.l [],.l [],.l bt,.l sv,.l (l'.map Cp.e)])∧l'.length=l.length∧(∀c,c∈l'→c.Sz 1048576)∧p≤p'∧p'≤p+10*d:=by
 intro d
 induction d with
 |zero=>
  intro l p hn hd hd2 hL h0 h1
  refine ⟨l,p,aU ?_,rfl,hL,by omega,by omega⟩
  have:¬((l[n].likes.length:Int)<(B:Int)):=by omega
  simp only[apL,jC,jD,bF.d1,C.I_i,C.L_l,jW,jY,ltL hn,jX,decide_true,jR]
  rw[getD_map' Cp.e hn]
  simp only[Cp.e,jC,jD,C.L_l,jW,this,decide_false,jS]
 |succ d ih=>
  intro l p hn hd hd2 hL h0 h1
  by_cases hlt:l[n].likes.length<B
  ·obtain ⟨k,hk,g1⟩:=bc hb hl h0 (show p≤1125899906842624 by omega) (n:=2) (by omega) (by omega)
   obtain ⟨m,hm,g2⟩:=bc hb hl (p:=p+1) (n:=2) (by omega) (by omega) (by omega) (by omega)
   have hc:=hL _ (List.getElem_mem hn)
   have he:Lk.e ⟨Go.Ev.bs #[],w64 (9+w64 ((k:Int)*(m:Int)))⟩=[.s (Go.Ev.bs #[]),.i (w64 (9+w64 ((k:Int)*(m:Int))))]:=rfl
   have ht:=trS hn _ _ he
   have hn':n<(l.set n {l[n] with likes:=l[n].likes++[⟨Go.Ev.bs #[],w64 (9+w64 ((k:Int)*(m:Int)))⟩]}).length:=by rw[List.length_set];exact hn
   obtain ⟨l',p',q1,q2,q3,q4,q5⟩:=ih (l.set n {l[n] with likes:=l[n].likes++[⟨Go.Ev.bs #[],w64 (9+w64 ((k:Int)*(m:Int)))⟩]}) (p+1+1) hn' (by rw[List.getElem_set_self];show B≤(l[n].likes++[_]).length+d;rw[List.length_append];simp only[List.length_cons,List.length_nil];omega) (by omega) (fun c hc'=>by
    rcases List.mem_or_eq_of_mem_set hc' with hc'|rfl
    ·exact hL c hc'
    ·refine ⟨hc.1,hc.2.1,hc.2.2.1,hc.2.2.2.1,hc.2.2.2.2.1,hc.2.2.2.2.2.1,?_,fun x hx=>?_⟩
     ·show (l[n].likes++[_]).length≤_
      rw[List.length_append];simp only[List.length_cons,List.length_nil];omega
     ·rcases List.mem_append.1 hx with hx|hx
      ·exact hc.2.2.2.2.2.2.2 x hx
      ·rw[List.mem_singleton.1 hx];show (Go.Ev.bs #[]).size≤_;decide) (by omega) (by omega)
   refine ⟨l',p',?_,by rw[q2,List.length_set],q3,by omega,by omega⟩
   rw[←q1]
   apply aI
   have c1:(l[n].likes.length:Int)<(B:Int):=by omega
   have c2:l[n].likes.length+1≤4294967296:=by omega
   have hg7:(((l.map Cp.e).getD n []).getD 7 .nil).L.length=l[n].likes.length:=by rw[getD_map' Cp.e hn];simp[Cp.e]
   simp only[apL,jC,jD,bF.d1,C.I_i,C.L_l,jW,jY,ltL hn,jX,decide_true,jR,hg7,c1,g1,g2,call3,jI,rows,List.length_cons,List.length_nil,Nat.zero_add,c2,List.length_set,ht,CP]
  ·refine ⟨l,p,aU ?_,rfl,hL,by omega,by omega⟩
   have:¬((l[n].likes.length:Int)<(B:Int)):=by omega
   simp only[apL,jC,jD,bF.d1,C.I_i,C.L_l,jW,jY,ltL hn,jX,decide_true,jR]
   rw[getD_map' Cp.e hn]
   simp only[Cp.e,jC,jD,C.L_l,jW,this,decide_false,jS]
omit hb hl in
theorem J8 (pk:Bool) (bts:List Bt) (sv:List (List C)) {k:Nat} (hk:k<bts.length) (hz:bts[k].name.size≤1000) (p:Int) (B:Nat) (hB:B≤20):∀(d:Nat) (L:List Cp),L.length+d=B→(∀c,c∈L→c.Sz 1048576)→
  ∃L':List Cp,lim (apn 13 bF.d3) [.i k,.i B,.i L.length,.l bs,.i p,.b false,.b pk,.l [],.l [],.l [],.l (bts.map Bt.e),.l sv,.l (L.map Cp.e)]=some (.brk 3 [.l bs,.i p,.b false,.b pk,.l [],.l [],.l [],.l (bts.map Bt.e),.l sv,.l (L'.map Cp.e)])∧L'.length≤20∧(∀c,c∈L'→c.Sz 1048576):=by
 intro d
 induction d with
 |zero=>
  intro L hn hL
  refine ⟨L,aU ?_,by omega,hL⟩
  have:¬((L.length:Int)<(B:Int)):=by omega
  simp only[apL,jC,jD,bF.d3,C.I_i,this,decide_false,jS,C.L_l]
 |succ d ih=>
  intro L hn hL
  have mb:∀x:C,(kV (rows [[x]])).size=1:=fun _=>rfl
  have b1:(Go.Ev.bs #[99]).size=1:=rfl
  have c0:(L.length:Int)<(B:Int):=by omega
  have c1:1+1≤4294967296:=by omega
  have c2:L.length+1≤4294967296:=by omega
  have w:w64 ((L.length:Int)+1)=(((L.length+1:Nat)):Int):=by rw[aQ (by omega) (by omega)];rfl
  let c:Cp:=⟨Go.Ev.bs #[99]++kV (rows [[.i (IntKind.wrap .u8 (w64 (97+(L.length:Int))))]]),Go.Ev.bs #[119,101,98],0,0,0,0,Go.Ev.bs #[],[],0,Go.Ev.bs #[],Go.Ev.bs #[],bts[k].name⟩
  have hc:c.Sz 1048576:=⟨by show (Go.Ev.bs #[99]++kV (rows [[_]])).size≤_;rw[ByteArray.size_append,b1,mb];decide,by show (Go.Ev.bs #[119,101,98]).size≤_;decide,by show (Go.Ev.bs #[]).size≤_;decide,by show (Go.Ev.bs #[]).size≤_;decide,by show (Go.Ev.bs #[]).size≤_;decide,by show bts[k].name.size≤_;omega,by show 0≤_;decide,fun x hx=>by simp[c] at hx⟩
  obtain ⟨L',q1,q2,q3⟩:=ih (L++[c]) (by simp;omega) (fun x hx=>by
   rcases List.mem_append.1 hx with hx|hx
   ·exact hL x hx
   ·rw[List.mem_singleton.1 hx];exact hc)
  refine ⟨L',?_,q2,q3⟩
  rw[←q1]
  apply aI
  simp only[apL,jC,jD,bF.d3,C.I_i,c0,decide_true,jR,C.S_s,b1,mb,c1,C.L_l,jW,w,ltL hk,jX,jY,List.length_append,List.map_append]
  rw[getD_map' Bt.e hk]
  simp only[rows,List.length_cons,List.length_nil,Nat.zero_add,c2,decide_true,jR,Bt.e,jC,af]
  rfl
theorem Gr {f:Fl} (hz:f.Sz 1000) (hs:f.svs.length=4) (hb1:1≤f.bts.length) {p:Int} (h0:0≤p) (h1:p≤1125899906842624-10000):
  ∃(g:Fl) (p':Int),bF (f.e++[.l bs,.i p])=some (spR bs g p')∧g.Sq∧p≤p'∧p'≤p+1000:=by
 have hF:=lI hz.up
 have hbl:=hz.1.1
 have hcl:=hz.2.2.1
 obtain ⟨k,hk,g1⟩:=bc hb hl h0 (show p≤1125899906842624 by omega) (n:=(f.bts.length:Int)) (by omega) (by omega)
 have hk':k<f.bts.length:=by omega
 have hbk:=(hz.1.2 _ (List.getElem_mem hk')).up
 have hbk0:=hz.1.2 _ (List.getElem_mem hk')
 have nb:((f.bts.length:Int)==0)=false:=by rw[beq_eq_false_iff_ne];omega
 simp only[Fl.e] at hF
 by_cases hc0:f.cps.length=0
 ·have g2:=JO (bs:=bs) (p:=p+1) (n:=(f.cps.length:Int)) (by omega) (by omega) (by omega)
  have nc:((f.cps.length:Int)==0)=true:=by rw[hc0];rfl
  refine ⟨⟨false,[],[⟨Go.Ev.bs #[],0⟩],[]⟩,p+1+1,?_,⟨⟨⟨by show 0≤_;decide,fun b hb=>by simp at hb⟩,⟨by show 1≤_;decide,fun s hs=>by rw[List.mem_singleton.1 hs];show (Go.Ev.bs #[]).size≤_;decide⟩,by show 0≤_;decide,fun b hb=>by simp at hb⟩,by show 0≤_;decide⟩,by omega,by omega⟩
  simp only[bF,bF.d5,Fl.e,jA,jB,apL,jC,jD,hF,call4,jI,C.L_l,jW,g1,g2,call3,nb,nc,ja,jR,jV]
  rfl
 obtain ⟨n,hn,g2⟩:=bc hb hl (p:=p+1) (n:=(f.cps.length:Int)) (by omega) (by omega) (by omega) (by omega)
 have hn':n<f.cps.length:=by omega
 have hcn:=(hz.2.2.2 _ (List.getElem_mem hn')).up
 have nc:((f.cps.length:Int)==0)=false:=by rw[beq_eq_false_iff_ne];omega
 obtain ⟨q,hq,g3⟩:=bc hb hl (p:=p+1+1) (n:=16) (by omega) (by omega) (by omega) (by omega)
 simp only[bF,bF.d5,Fl.e,jA,jB,apL,jC,jD,hF,call4,jI,C.L_l,C.I_i,jW,g1,g2,call3,nb,nc,ja,jR,jS]
 refine Ja ?_
 rw[g3]
 simp only[jI,jC,jD,C.I_i]
 have hqq:q=0∨q=1∨q=2∨q=3∨q=4∨q=5∨q=6∨q=7∨q=8∨q=9∨q=10∨q=11∨q=12∨q=13∨q=14∨q=15:=by omega
 rcases hqq with rfl|rfl|rfl|rfl|rfl|rfl|rfl|rfl|rfl|rfl|rfl|rfl|rfl|rfl|rfl|rfl
 ·simp only[show ((((0:Nat):Int))==0)=true from rfl,jR,jS]
  obtain ⟨t,ht,g4⟩:=bc hb hl (p:=p+1+1+1) (n:=2) (by omega) (by omega) (by omega) (by omega)
  have w20:w64 (20+(t:Int))=((20+t:Nat):Int):=by rw[aQ (by omega) (by omega)];omega
  obtain ⟨w,gm,hw⟩:=Ea (Go.Ev.bs #[110]) (20+t) (by omega) rfl
  obtain ⟨x,hx,g5⟩:=bc hb hl (p:=p+1+1+1+1) (n:=4) (by omega) (by omega) (by omega) (by omega)
  obtain ⟨v,v1,v2⟩:=C1 [Go.Ev.bs #[],Go.Ev.bs #[65],Go.Ev.bs #[122,122],w] (by intro s hs;simp only[List.mem_cons,List.not_mem_nil,or_false] at hs;rcases hs with rfl|rfl|rfl|rfl<;>first|assumption|decide) (x:=x) (by simp only[List.length_cons,List.length_nil];omega)
  simp only[List.map_cons,List.map_nil,sE] at v1
  have l1:((x:Nat):Int)<((4:Nat):Int):=by omega
  have st:(f.bts.map Bt.e).set k (aE ((f.bts.map Bt.e).getD k []) 0 [.s v])=(f.bts.set k {f.bts[k] with name:=v}).map Bt.e:=oW hk' rfl
  simp only[g4,g5,gm,w20,call3,ad,jI,jC,jD,C.I_i,jX,decide_true,jR,rows,List.length_cons,List.length_nil,Nat.zero_add,Nat.reduceAdd,jY,af,l1,v1,ltL hk',st]
  exact ⟨{f with bts:=f.bts.set k {f.bts[k] with name:=v}},p+1+1+1+1+1,rfl,D3 hz (b:= {f.bts[k] with name:=v}) ⟨Nat.le_trans v2 (by decide),hbk.2⟩ k,by omega,by omega⟩
 ·simp only[show ((((1:Nat):Int))==0)=false from rfl,show ((((1:Nat):Int))==1)=true from rfl,jR,jS]
  obtain ⟨x,hx,g4⟩:=bc hb hl (p:=p+1+1+1) (n:=2) (by omega) (by omega) (by omega) (by omega)
  obtain ⟨v,v1,v2⟩:=C1 [Go.Ev.bs #[],Go.Ev.bs #[120,32,121]] (by intro s hs;simp only[List.mem_cons,List.not_mem_nil,or_false] at hs;rcases hs with rfl|rfl<;>first|assumption|decide) (x:=x) (by simp only[List.length_cons,List.length_nil];omega)
  simp only[List.map_cons,List.map_nil,sE] at v1
  have l1:((x:Nat):Int)<((2:Nat):Int):=by omega
  have st:(f.bts.map Bt.e).set k (aE ((f.bts.map Bt.e).getD k []) 1 [.s v])=(f.bts.set k {f.bts[k] with zone:=v}).map Bt.e:=oW hk' rfl
  simp only[g4,call3,ad,jI,jC,jD,C.I_i,jX,decide_true,jR,rows,List.length_cons,List.length_nil,Nat.zero_add,Nat.reduceAdd,jY,af,l1,v1,ltL hk',st]
  exact ⟨{f with bts:=f.bts.set k {f.bts[k] with zone:=v}},p+1+1+1+1,rfl,D3 hz (b:= {f.bts[k] with zone:=v}) ⟨hbk.1,Nat.le_trans v2 (by decide),hbk.2.2⟩ k,by omega,by omega⟩
 ·simp only[show ((((2:Nat):Int))==0)=false from rfl,show ((((2:Nat):Int))==1)=false from rfl,show ((((2:Nat):Int))==2)=true from rfl,jR,jS]
  obtain ⟨x,hx,g4⟩:=bc hb hl (p:=p+1+1+1) (n:=6) (by omega) (by omega) (by omega) (by omega)
  obtain ⟨v,v1,v2,v3⟩:=Kk [[Go.Ev.bs #[98],Go.Ev.bs #[97]],[Go.Ev.bs #[97],Go.Ev.bs #[97,61,98]],[Go.Ev.bs #[97,61,98],Go.Ev.bs #[97,61,99]],[Go.Ev.bs #[65]],[Go.Ev.bs #[97],Go.Ev.bs #[97,45,120],Go.Ev.bs #[97,61,98]],[Go.Ev.bs #[49],Go.Ev.bs #[50],Go.Ev.bs #[51],Go.Ev.bs #[52],Go.Ev.bs #[53],Go.Ev.bs #[54],Go.Ev.bs #[55],Go.Ev.bs #[56],Go.Ev.bs #[57],Go.Ev.bs #[97],Go.Ev.bs #[98]]] (by decide) (x:=x) (by simp only[List.length_cons,List.length_nil];omega)
  simp only[List.map_cons,List.map_nil,sE] at v1
  have l1:((x:Nat):Int)<((6:Nat):Int):=by omega
  have st:(f.bts.map Bt.e).set k (aE ((f.bts.map Bt.e).getD k []) 2 [.l (v.map sE)])=(f.bts.set k {f.bts[k] with marks:=v}).map Bt.e:=oW hk' rfl
  simp only[g4,call3,ad,jI,jC,jD,C.I_i,jX,decide_true,jR,rows,List.length_cons,List.length_nil,Nat.zero_add,Nat.reduceAdd,jY,af,l1,v1,ltL hk',st]
  exact ⟨{f with bts:=f.bts.set k {f.bts[k] with marks:=v}},p+1+1+1+1,rfl,D3 hz (b:= {f.bts[k] with marks:=v}) ⟨hbk.1,hbk.2.1,Nat.le_trans v2 (by decide),fun m hm=>Nat.le_trans (v3 m hm) (by decide)⟩ k,by omega,by omega⟩
 ·simp only[show ((((3:Nat):Int))==0)=false from rfl,show ((((3:Nat):Int))==1)=false from rfl,show ((((3:Nat):Int))==2)=false from rfl,show ((((3:Nat):Int))==3)=true from rfl,jR,jS]
  obtain ⟨x,hx,g4⟩:=bc hb hl (p:=p+1+1+1) (n:=4) (by omega) (by omega) (by omega) (by omega)
  obtain ⟨v,v1⟩:=FO [-1,0,1000,1001] (x:=x) (by simp only[List.length_cons,List.length_nil];omega)
  simp only[List.map_cons,List.map_nil] at v1
  have l1:((x:Nat):Int)<((4:Nat):Int):=by omega
  have st:(f.bts.map Bt.e).set k (aE ((f.bts.map Bt.e).getD k []) 3 [.i v])=(f.bts.set k {f.bts[k] with room:=v}).map Bt.e:=oW hk' rfl
  simp only[g4,call3,ad,jI,jC,jD,C.I_i,jX,decide_true,jR,rows,List.length_cons,List.length_nil,Nat.zero_add,Nat.reduceAdd,jY,af,l1,v1,ltL hk',st]
  exact ⟨{f with bts:=f.bts.set k {f.bts[k] with room:=v}},p+1+1+1+1,rfl,D3 hz (b:= {f.bts[k] with room:=v}) hbk k,by omega,by omega⟩
 ·simp only[show ((((4:Nat):Int))==0)=false from rfl,show ((((4:Nat):Int))==1)=false from rfl,show ((((4:Nat):Int))==2)=false from rfl,show ((((4:Nat):Int))==3)=false from rfl,show ((((4:Nat):Int))==4)=true from rfl,jR,jS]
  have c1:f.bts.length+1≤4294967296:=by omega
  have hr:[((f.bts.map Bt.e).getD k []).getD 0 .nil,((f.bts.map Bt.e).getD k []).getD 1 .nil,((f.bts.map Bt.e).getD k []).getD 2 .nil,((f.bts.map Bt.e).getD k []).getD 3 .nil,((f.bts.map Bt.e).getD k []).getD 4 .nil,((f.bts.map Bt.e).getD k []).getD 5 .nil]=f.bts[k].e:=by rw[getD_map' Bt.e hk'];rfl
  simp only[call3,ad,jI,jC,jD,C.I_i,jX,decide_true,jR,rows,List.length_cons,List.length_nil,Nat.zero_add,Nat.reduceAdd,jY,af,ltL hk',c1,hr]
  refine ⟨{f with bts:=f.bts++[f.bts[k]]},p+1+1+1,by simp only[spN,List.map_append,List.map_cons,List.map_nil],⟨⟨⟨by show (f.bts++[f.bts[k]]).length≤_;rw[List.length_append];simp only[List.length_cons,List.length_nil];omega,fun x hx=>?_⟩,hz.up.2⟩,hz.2.2.1⟩,by omega,by omega⟩
  rcases List.mem_append.1 hx with hx|hx
  ·exact hz.up.1.2 x hx
  ·rw[List.mem_singleton.1 hx];exact hbk
 ·simp only[show ((((5:Nat):Int))==0)=false from rfl,show ((((5:Nat):Int))==1)=false from rfl,show ((((5:Nat):Int))==2)=false from rfl,show ((((5:Nat):Int))==3)=false from rfl,show ((((5:Nat):Int))==4)=false from rfl,show ((((5:Nat):Int))==5)=true from rfl,jR,jS]
  obtain ⟨a,ha,g4⟩:=bc hb hl (p:=p+1+1+1) (n:=4) (by omega) (by omega) (by omega) (by omega)
  have ha':a<f.svs.length:=by omega
  have hsa:f.svs[a].name.size≤1048576:=hz.up.2.1.2 _ (List.getElem_mem ha')
  obtain ⟨x,hx,g5⟩:=bc hb hl (p:=p+1+1+1+1) (n:=3) (by omega) (by omega) (by omega) (by omega)
  obtain ⟨v,v1⟩:=FO [-1,60,61] (x:=x) (by simp only[List.length_cons,List.length_nil];omega)
  simp only[List.map_cons,List.map_nil] at v1
  have l1:((x:Nat):Int)<((3:Nat):Int):=by omega
  have st:(f.svs.map Sv.e).set a (aE ((f.svs.map Sv.e).getD a []) 1 [.i v])=(f.svs.set a {f.svs[a] with spare:=v}).map Sv.e:=oW ha' rfl
  simp only[g4,g5,call3,ad,jI,jC,jD,C.I_i,jX,decide_true,jR,rows,List.length_cons,List.length_nil,Nat.zero_add,Nat.reduceAdd,jY,af,l1,v1,ltL ha',st]
  exact ⟨{f with svs:=f.svs.set a {f.svs[a] with spare:=v}},p+1+1+1+1+1,rfl,JU hz (b:= {f.svs[a] with spare:=v}) hsa a,by omega,by omega⟩
 ·simp only[show ((((6:Nat):Int))==0)=false from rfl,show ((((6:Nat):Int))==1)=false from rfl,show ((((6:Nat):Int))==2)=false from rfl,show ((((6:Nat):Int))==3)=false from rfl,show ((((6:Nat):Int))==4)=false from rfl,show ((((6:Nat):Int))==5)=false from rfl,show ((((6:Nat):Int))==6)=true from rfl,jR,jS]
  obtain ⟨x,hx,g4⟩:=bc hb hl (p:=p+1+1+1) (n:=3) (by omega) (by omega) (by omega) (by omega)
  obtain ⟨v,v1⟩:=FO [-1,100,101] (x:=x) (by simp only[List.length_cons,List.length_nil];omega)
  simp only[List.map_cons,List.map_nil] at v1
  have l1:((x:Nat):Int)<((3:Nat):Int):=by omega
  have st:(f.cps.map Cp.e).set n (aE ((f.cps.map Cp.e).getD n []) 2 [.i v])=(f.cps.set n {f.cps[n] with rank:=v}).map Cp.e:=oW hn' rfl
  simp only[g4,call3,ad,jI,jC,jD,C.I_i,jX,decide_true,jR,rows,List.length_cons,List.length_nil,Nat.zero_add,Nat.reduceAdd,jY,af,l1,v1,ltL hn',st]
  exact ⟨{f with cps:=f.cps.set n {f.cps[n] with rank:=v}},p+1+1+1+1,rfl,vj hz (b:= {f.cps[n] with rank:=v}) hcn n,by omega,by omega⟩
 ·simp only[show ((((7:Nat):Int))==0)=false from rfl,show ((((7:Nat):Int))==1)=false from rfl,show ((((7:Nat):Int))==2)=false from rfl,show ((((7:Nat):Int))==3)=false from rfl,show ((((7:Nat):Int))==4)=false from rfl,show ((((7:Nat):Int))==5)=false from rfl,show ((((7:Nat):Int))==6)=false from rfl,show ((((7:Nat):Int))==7)=true from rfl,jR,jS]
  obtain ⟨x,hx,g4⟩:=bc hb hl (p:=p+1+1+1) (n:=3) (by omega) (by omega) (by omega) (by omega)
  obtain ⟨v,v1⟩:=FO [-1,1000000,1000001] (x:=x) (by simp only[List.length_cons,List.length_nil];omega)
  simp only[List.map_cons,List.map_nil] at v1
  have l1:((x:Nat):Int)<((3:Nat):Int):=by omega
  have st:(f.cps.map Cp.e).set n (aE ((f.cps.map Cp.e).getD n []) 3 [.i v])=(f.cps.set n {f.cps[n] with born:=v}).map Cp.e:=oW hn' rfl
  simp only[g4,call3,ad,jI,jC,jD,C.I_i,jX,decide_true,jR,rows,List.length_cons,List.length_nil,Nat.zero_add,Nat.reduceAdd,jY,af,l1,v1,ltL hn',st]
  exact ⟨{f with cps:=f.cps.set n {f.cps[n] with born:=v}},p+1+1+1+1,rfl,vj hz (b:= {f.cps[n] with born:=v}) hcn n,by omega,by omega⟩
 ·simp only[show ((((8:Nat):Int))==0)=false from rfl,show ((((8:Nat):Int))==1)=false from rfl,show ((((8:Nat):Int))==2)=false from rfl,show ((((8:Nat):Int))==3)=false from rfl,show ((((8:Nat):Int))==4)=false from rfl,show ((((8:Nat):Int))==5)=false from rfl,show ((((8:Nat):Int))==6)=false from rfl,show ((((8:Nat):Int))==7)=false from rfl,show ((((8:Nat):Int))==8)=true from rfl,jR,jS]
  obtain ⟨x,hx,g4⟩:=bc hb hl (p:=p+1+1+1) (n:=3) (by omega) (by omega) (by omega) (by omega)
  obtain ⟨v,v1⟩:=FO [-1,1000,1001] (x:=x) (by simp only[List.length_cons,List.length_nil];omega)
  simp only[List.map_cons,List.map_nil] at v1
  have l1:((x:Nat):Int)<((3:Nat):Int):=by omega
  have st:(f.cps.map Cp.e).set n (aE ((f.cps.map Cp.e).getD n []) 4 [.i v])=(f.cps.set n {f.cps[n] with room:=v}).map Cp.e:=oW hn' rfl
  simp only[g4,call3,ad,jI,jC,jD,C.I_i,jX,decide_true,jR,rows,List.length_cons,List.length_nil,Nat.zero_add,Nat.reduceAdd,jY,af,l1,v1,ltL hn',st]
  exact ⟨{f with cps:=f.cps.set n {f.cps[n] with room:=v}},p+1+1+1+1,rfl,vj hz (b:= {f.cps[n] with room:=v}) hcn n,by omega,by omega⟩
 ·simp only[show ((((9:Nat):Int))==0)=false from rfl,show ((((9:Nat):Int))==1)=false from rfl,show ((((9:Nat):Int))==2)=false from rfl,show ((((9:Nat):Int))==3)=false from rfl,show ((((9:Nat):Int))==4)=false from rfl,show ((((9:Nat):Int))==5)=false from rfl,show ((((9:Nat):Int))==6)=false from rfl,show ((((9:Nat):Int))==7)=false from rfl,show ((((9:Nat):Int))==8)=false from rfl,show ((((9:Nat):Int))==9)=true from rfl,jR,jS]
  obtain ⟨w,gm,hw⟩:=Ea (Go.Ev.bs #[97]) 201 (by omega) rfl
  have gm':eO [.s (Go.Ev.bs #[97]),.i 201]=some [.s w]:=gm
  obtain ⟨x,hx,g4⟩:=bc hb hl (p:=p+1+1+1) (n:=4) (by omega) (by omega) (by omega) (by omega)
  obtain ⟨v,v1,v2⟩:=C1 [Go.Ev.bs #[97,32,98],Go.Ev.bs #[33],w,Go.Ev.bs #[120]] (by intro s hs;simp only[List.mem_cons,List.not_mem_nil,or_false] at hs;rcases hs with rfl|rfl|rfl|rfl<;>first|assumption|decide) (x:=x) (by simp only[List.length_cons,List.length_nil];omega)
  simp only[List.map_cons,List.map_nil,sE] at v1
  have l1:((x:Nat):Int)<((4:Nat):Int):=by omega
  have st:(f.cps.map Cp.e).set n (aE ((f.cps.map Cp.e).getD n []) 6 [.s v])=(f.cps.set n {f.cps[n] with sel:=v}).map Cp.e:=oW hn' rfl
  simp only[g4,gm',call3,ad,jI,jC,jD,C.I_i,jX,decide_true,jR,rows,List.length_cons,List.length_nil,Nat.zero_add,Nat.reduceAdd,jY,af,l1,v1,ltL hn',st]
  exact ⟨{f with cps:=f.cps.set n {f.cps[n] with sel:=v}},p+1+1+1+1,rfl,vj hz (b:= {f.cps[n] with sel:=v}) ⟨hcn.1,hcn.2.1,Nat.le_trans v2 (by decide),hcn.2.2.2.1,hcn.2.2.2.2.1,hcn.2.2.2.2.2.1,hcn.2.2.2.2.2.2⟩ n,by omega,by omega⟩
 ·simp only[show ((((10:Nat):Int))==0)=false from rfl,show ((((10:Nat):Int))==1)=false from rfl,show ((((10:Nat):Int))==2)=false from rfl,show ((((10:Nat):Int))==3)=false from rfl,show ((((10:Nat):Int))==4)=false from rfl,show ((((10:Nat):Int))==5)=false from rfl,show ((((10:Nat):Int))==6)=false from rfl,show ((((10:Nat):Int))==7)=false from rfl,show ((((10:Nat):Int))==8)=false from rfl,show ((((10:Nat):Int))==9)=false from rfl,show ((((10:Nat):Int))==10)=true from rfl,jR,jS]
  obtain ⟨x,hx,g4⟩:=bc hb hl (p:=p+1+1+1) (n:=2) (by omega) (by omega) (by omega) (by omega)
  have w5:w64 (5+(x:Int))=((5+x:Nat):Int):=by rw[aQ (by omega) (by omega)];omega
  obtain ⟨l',p',q1,q2,q3,q4,q5⟩:=Ka hb hl f.pack (f.bts.map Bt.e) (f.svs.map Sv.e) n (5+x) (by omega) 20 f.cps (p+1+1+1+1) hn' (by omega) (by omega) hz.up.2.2.2 (by omega) (by omega)
  simp only[g4,call3,ad,jI,jC,jD,C.I_i,jX,decide_true,jR,rows,List.length_cons,List.length_nil,Nat.zero_add,Nat.reduceAdd,jY,af,w5,q1,au,bF.d2,apL,C.L_l]
  exact ⟨{f with cps:=l'},p',rfl,⟨⟨hz.up.1,hz.up.2.1,by show l'.length≤_;omega,q3⟩,by show l'.length≤_;omega⟩,by omega,by omega⟩
 ·simp only[show ((((11:Nat):Int))==0)=false from rfl,show ((((11:Nat):Int))==1)=false from rfl,show ((((11:Nat):Int))==2)=false from rfl,show ((((11:Nat):Int))==3)=false from rfl,show ((((11:Nat):Int))==4)=false from rfl,show ((((11:Nat):Int))==5)=false from rfl,show ((((11:Nat):Int))==6)=false from rfl,show ((((11:Nat):Int))==7)=false from rfl,show ((((11:Nat):Int))==8)=false from rfl,show ((((11:Nat):Int))==9)=false from rfl,show ((((11:Nat):Int))==10)=false from rfl,show ((((11:Nat):Int))==11)=true from rfl,jR,jS]
  obtain ⟨x,hx,g4⟩:=bc hb hl (p:=p+1+1+1) (n:=2) (by omega) (by omega) (by omega) (by omega)
  obtain ⟨v,v1⟩:=FO [-1,3] (x:=x) (by simp only[List.length_cons,List.length_nil];omega)
  simp only[List.map_cons,List.map_nil] at v1
  have l1:((x:Nat):Int)<((2:Nat):Int):=by omega
  have st:(f.cps.map Cp.e).set n (aE ((f.cps.map Cp.e).getD n []) 8 [.i v])=(f.cps.set n {f.cps[n] with apart:=v}).map Cp.e:=oW hn' rfl
  simp only[g4,call3,ad,jI,jC,jD,C.I_i,jX,decide_true,jR,rows,List.length_cons,List.length_nil,Nat.zero_add,Nat.reduceAdd,jY,af,l1,v1,ltL hn',st]
  exact ⟨{f with cps:=f.cps.set n {f.cps[n] with apart:=v}},p+1+1+1+1,rfl,vj hz (b:= {f.cps[n] with apart:=v}) hcn n,by omega,by omega⟩
 ·simp only[show ((((12:Nat):Int))==0)=false from rfl,show ((((12:Nat):Int))==1)=false from rfl,show ((((12:Nat):Int))==2)=false from rfl,show ((((12:Nat):Int))==3)=false from rfl,show ((((12:Nat):Int))==4)=false from rfl,show ((((12:Nat):Int))==5)=false from rfl,show ((((12:Nat):Int))==6)=false from rfl,show ((((12:Nat):Int))==7)=false from rfl,show ((((12:Nat):Int))==8)=false from rfl,show ((((12:Nat):Int))==9)=false from rfl,show ((((12:Nat):Int))==10)=false from rfl,show ((((12:Nat):Int))==11)=false from rfl,show ((((12:Nat):Int))==12)=true from rfl,jR,jS]
  obtain ⟨x,hx,g4⟩:=bc hb hl (p:=p+1+1+1) (n:=3) (by omega) (by omega) (by omega) (by omega)
  obtain ⟨v,v1,v2⟩:=C1 [Go.Ev.bs #[103,111,110,101],Go.Ev.bs #[98,48],Go.Ev.bs #[98,49]] (by intro s hs;simp only[List.mem_cons,List.not_mem_nil,or_false] at hs;rcases hs with rfl|rfl|rfl<;>first|assumption|decide) (x:=x) (by simp only[List.length_cons,List.length_nil];omega)
  simp only[List.map_cons,List.map_nil,sE] at v1
  have l1:((x:Nat):Int)<((3:Nat):Int):=by omega
  have st:(f.cps.map Cp.e).set n (aE ((f.cps.map Cp.e).getD n []) 11 [.s v])=(f.cps.set n {f.cps[n] with at_:=v}).map Cp.e:=oW hn' rfl
  simp only[g4,call3,ad,jI,jC,jD,C.I_i,jX,decide_true,jR,rows,List.length_cons,List.length_nil,Nat.zero_add,Nat.reduceAdd,jY,af,l1,v1,ltL hn',st]
  exact ⟨{f with cps:=f.cps.set n {f.cps[n] with at_:=v}},p+1+1+1+1,rfl,vj hz (b:= {f.cps[n] with at_:=v}) ⟨hcn.1,hcn.2.1,hcn.2.2.1,hcn.2.2.2.1,hcn.2.2.2.2.1,Nat.le_trans v2 (by decide),hcn.2.2.2.2.2.2⟩ n,by omega,by omega⟩
 ·simp only[show ((((13:Nat):Int))==0)=false from rfl,show ((((13:Nat):Int))==1)=false from rfl,show ((((13:Nat):Int))==2)=false from rfl,show ((((13:Nat):Int))==3)=false from rfl,show ((((13:Nat):Int))==4)=false from rfl,show ((((13:Nat):Int))==5)=false from rfl,show ((((13:Nat):Int))==6)=false from rfl,show ((((13:Nat):Int))==7)=false from rfl,show ((((13:Nat):Int))==8)=false from rfl,show ((((13:Nat):Int))==9)=false from rfl,show ((((13:Nat):Int))==10)=false from rfl,show ((((13:Nat):Int))==11)=false from rfl,show ((((13:Nat):Int))==12)=false from rfl,show ((((13:Nat):Int))==13)=true from rfl,jR,jS]
  obtain ⟨x,hx,g4⟩:=bc hb hl (p:=p+1+1+1) (n:=2) (by omega) (by omega) (by omega) (by omega)
  obtain ⟨v,v1,v2⟩:=C1 [Go.Ev.bs #[110,111,110,101],Go.Ev.bs #[]] (by intro s hs;simp only[List.mem_cons,List.not_mem_nil,or_false] at hs;rcases hs with rfl|rfl<;>first|assumption|decide) (x:=x) (by simp only[List.length_cons,List.length_nil];omega)
  simp only[List.map_cons,List.map_nil,sE] at v1
  have l1:((x:Nat):Int)<((2:Nat):Int):=by omega
  have st:(f.cps.map Cp.e).set n (aE ((f.cps.map Cp.e).getD n []) 1 [.s v])=(f.cps.set n {f.cps[n] with svc:=v}).map Cp.e:=oW hn' rfl
  simp only[g4,call3,ad,jI,jC,jD,C.I_i,jX,decide_true,jR,rows,List.length_cons,List.length_nil,Nat.zero_add,Nat.reduceAdd,jY,af,l1,v1,ltL hn',st]
  exact ⟨{f with cps:=f.cps.set n {f.cps[n] with svc:=v}},p+1+1+1+1,rfl,vj hz (b:= {f.cps[n] with svc:=v}) ⟨hcn.1,Nat.le_trans v2 (by decide),hcn.2.2.1,hcn.2.2.2.1,hcn.2.2.2.2.1,hcn.2.2.2.2.2.1,hcn.2.2.2.2.2.2⟩ n,by omega,by omega⟩
 ·simp only[show ((((14:Nat):Int))==0)=false from rfl,show ((((14:Nat):Int))==1)=false from rfl,show ((((14:Nat):Int))==2)=false from rfl,show ((((14:Nat):Int))==3)=false from rfl,show ((((14:Nat):Int))==4)=false from rfl,show ((((14:Nat):Int))==5)=false from rfl,show ((((14:Nat):Int))==6)=false from rfl,show ((((14:Nat):Int))==7)=false from rfl,show ((((14:Nat):Int))==8)=false from rfl,show ((((14:Nat):Int))==9)=false from rfl,show ((((14:Nat):Int))==10)=false from rfl,show ((((14:Nat):Int))==11)=false from rfl,show ((((14:Nat):Int))==12)=false from rfl,show ((((14:Nat):Int))==13)=false from rfl,show ((((14:Nat):Int))==14)=true from rfl,jR,jS]
  obtain ⟨x,hx,g4⟩:=bc hb hl (p:=p+1+1+1) (n:=2) (by omega) (by omega) (by omega) (by omega)
  have w5:w64 (10+(x:Int))=((10+x:Nat):Int):=by rw[aQ (by omega) (by omega)];omega
  obtain ⟨l',q1,q2,q3⟩:=J8 (bs:=bs) f.pack f.bts (f.svs.map Sv.e) hk' hbk0.1 (p+1+1+1+1) (10+x) (by omega) (10+x) [] (by simp) (fun c hc=>by simp at hc)
  simp only[List.map_nil,List.length_nil,Int.natCast_zero] at q1
  simp only[g4,call3,ad,jI,jC,jD,C.I_i,jX,decide_true,jR,rows,List.length_cons,List.length_nil,Nat.zero_add,Nat.reduceAdd,jY,af,w5,q1,au,bF.d2,apL,C.L_l]
  exact ⟨{f with cps:=l'},_,rfl,⟨⟨hz.up.1,hz.up.2.1,by show l'.length≤_;omega,q3⟩,by show l'.length≤_;omega⟩,by omega,by omega⟩
 ·simp only[show ((((15:Nat):Int))==0)=false from rfl,show ((((15:Nat):Int))==1)=false from rfl,show ((((15:Nat):Int))==2)=false from rfl,show ((((15:Nat):Int))==3)=false from rfl,show ((((15:Nat):Int))==4)=false from rfl,show ((((15:Nat):Int))==5)=false from rfl,show ((((15:Nat):Int))==6)=false from rfl,show ((((15:Nat):Int))==7)=false from rfl,show ((((15:Nat):Int))==8)=false from rfl,show ((((15:Nat):Int))==9)=false from rfl,show ((((15:Nat):Int))==10)=false from rfl,show ((((15:Nat):Int))==11)=false from rfl,show ((((15:Nat):Int))==12)=false from rfl,show ((((15:Nat):Int))==13)=false from rfl,show ((((15:Nat):Int))==14)=false from rfl,jR,jS]
  obtain ⟨x,hx,g4⟩:=bc hb hl (p:=p+1+1+1) (n:=2) (by omega) (by omega) (by omega) (by omega)
  obtain ⟨v,v1,v2⟩:=C1 [Go.Ev.bs #[65],Go.Ev.bs #[119,101,98]] (by intro s hs;simp only[List.mem_cons,List.not_mem_nil,or_false] at hs;rcases hs with rfl|rfl<;>first|assumption|decide) (x:=x) (by simp only[List.length_cons,List.length_nil];omega)
  simp only[List.map_cons,List.map_nil,sE] at v1
  have l1:((x:Nat):Int)<((2:Nat):Int):=by omega
  obtain ⟨y,hy,g5⟩:=bc hb hl (p:=p+1+1+1+1) (n:=2) (by omega) (by omega) (by omega) (by omega)
  obtain ⟨u,u1,u2⟩:=C1 [Go.Ev.bs #[120,32,121],Go.Ev.bs #[98,48]] (by intro s hs;simp only[List.mem_cons,List.not_mem_nil,or_false] at hs;rcases hs with rfl|rfl<;>first|assumption|decide) (x:=y) (by simp only[List.length_cons,List.length_nil];omega)
  simp only[List.map_cons,List.map_nil,sE] at u1
  have l2:((y:Nat):Int)<((2:Nat):Int):=by omega
  have st:(f.cps.map Cp.e).set n (aE ((f.cps.map Cp.e).getD n []) 9 [.s v])=(f.cps.set n {f.cps[n] with near:=v}).map Cp.e:=oW hn' rfl
  have hn2:n<(f.cps.set n {f.cps[n] with near:=v}).length:=by rw[List.length_set];exact hn'
  have st2:((f.cps.set n {f.cps[n] with near:=v}).map Cp.e).set n (aE (((f.cps.set n {f.cps[n] with near:=v}).map Cp.e).getD n []) 10 [.s u])=(f.cps.set n {f.cps[n] with near:=v,fixed:=u}).map Cp.e:=by
   rw[oW (b:= {f.cps[n] with near:=v,fixed:=u}) hn2 (by rw[List.getElem_set_self];rfl),List.set_set]
  simp only[g4,g5,call3,ad,jI,jC,jD,C.I_i,jX,decide_true,jR,rows,List.length_cons,List.length_nil,Nat.zero_add,Nat.reduceAdd,jY,af,l1,l2,v1,u1,ltL hn',st,jW,List.length_set,st2]
  exact ⟨{f with cps:=f.cps.set n {f.cps[n] with near:=v,fixed:=u}},p+1+1+1+1+1,rfl,vj hz (b:= {f.cps[n] with near:=v,fixed:=u}) ⟨hcn.1,hcn.2.1,hcn.2.2.1,Nat.le_trans v2 (by decide),Nat.le_trans u2 (by decide),hcn.2.2.2.2.2.1,hcn.2.2.2.2.2.2⟩ n,by omega,by omega⟩
end
end Go.Ev
namespace Go.Ev
section
variable {bs:List (List C)} (hb:BY bs) (hl:bs.length≤2000)
include hb hl
end
theorem HX {A:List (List C)} (hA:BY A):∃bs:List (List C),mw [.l A]=some [.l bs,.i 0]∧BY bs∧bs.length≤2000:=by
 simp only[mw,mw.d1,apL,jC,C.L_l]
 by_cases h:(A.length:Int)>2000
 ·have h2:(2000:Int)≤(A.length:Int):=by omega
  refine ⟨(A.take 2000).drop 0,?_,?_,?_⟩
  ·simp only[h,h2,decide_true,jR,jV]
  ·exact fun r hr=>hA r (List.mem_of_mem_take (List.mem_of_mem_drop hr))
  ·rw[List.drop_zero,List.length_take];omega
 ·refine ⟨A,?_,hA,by omega⟩
  simp only[h,decide_false,jS,jV]
end Go.Ev
set_option maxHeartbeats 1000000
namespace Go.Ev
end Go.Ev
namespace Go.Ev
section
variable {f:Fl} (h:VF f) {i:Nat} (hi:i<f.cps.length) (b:Bt)
include h hi
end
end Go.Ev
namespace Go.Ev
section
variable {bs:List (List C)} (hb:BY bs) (hl:bs.length≤2000)
include hb hl
theorem EI (f:Fl) (hz:f.cps.length≤1048576) {p:Int} (h0:0≤p) (h1:p≤1125899906842624-100):
  ∃(s:Str) (p':Int),kI (f.e++[.l bs,.i p])=some [.s s,.l bs,.i p']∧(s=Go.Ev.bs #[]∨s=Go.Ev.bs #[103,111,110,101]∨∃k,∃hk:k<f.cps.length,s=f.cps[k].name)∧p≤p'∧p'≤p+10:=by
 have tb:∀x:Nat,x<2→∃v:Str,((rows [[C.s (Go.Ev.bs #[])],[C.s (Go.Ev.bs #[103,111,110,101])]]).getD x []).getD 0 .nil=.s v∧(v=Go.Ev.bs #[]∨v=Go.Ev.bs #[103,111,110,101]):=fun x hx=>by
  rcases x with _|_|x
  ·exact ⟨_,rfl,.inl rfl⟩
  ·exact ⟨_,rfl,.inr rfl⟩
  ·omega
 have t2:(rows [[C.s (Go.Ev.bs #[])],[C.s (Go.Ev.bs #[103,111,110,101])]]).length=2:=rfl
 simp only[kI,kI.d1,Fl.e,jA,jB,apL,jC,jD,C.L_l,jW]
 by_cases hc:f.cps.length=0
 ·have nc:((f.cps.length:Int)==0)=true:=by rw[hc];rfl
  obtain ⟨x,hx,g1⟩:=bc hb hl h0 (show p≤1125899906842624 by omega) (n:=2) (by omega) (by omega)
  obtain ⟨v,v1,v2⟩:=tb x (by omega)
  have l1:(x:Int)<((2:Nat):Int):=by omega
  refine ⟨v,p+1,?_,v2.elim .inl fun h=>.inr (.inl h),by omega,by omega⟩
  simp only[nc,jZ,jS,g1,call3,jI,jC,jD,C.I_i,jX,decide_true,jR,t2,l1,jY,v1,jV]
 ·have nc:((f.cps.length:Int)==0)=false:=by rw[beq_eq_false_iff_ne];omega
  obtain ⟨y,hy,g1⟩:=bc hb hl h0 (show p≤1125899906842624 by omega) (n:=16) (by omega) (by omega)
  simp only[nc,ja,jR,g1,call3,jI,jC,jD,C.I_i]
  cases hq:((y:Int)==0) with
  |true=>
   obtain ⟨x,hx,g2⟩:=bc hb hl (p:=p+1) (n:=2) (by omega) (by omega) (by omega) (by omega)
   obtain ⟨v,v1,v2⟩:=tb x (by omega)
   have l1:(x:Int)<((2:Nat):Int):=by omega
   refine ⟨v,p+1+1,?_,v2.elim .inl fun h=>.inr (.inl h),by omega,by omega⟩
   simp only[jR,g2,jI,jC,jD,C.I_i,jX,decide_true,t2,l1,jY,v1,jV]
  |false=>
   obtain ⟨x,hx,g2⟩:=bc hb hl (p:=p+1) (n:=(f.cps.length:Int)) (by omega) (by omega) (by omega) (by omega)
   have hx':x<f.cps.length:=by omega
   refine ⟨f.cps[x].name,p+1+1,?_,.inr (.inr ⟨x,hx',rfl⟩),by omega,by omega⟩
   simp only[jS,g2,jI,jC,jD,C.I_i,jX,decide_true,jR,ltL hx',jY]
   rw[getD_map' Cp.e hx']
   rfl
theorem GB (f:Fl) (hz:f.bts.length≤1048576) {p:Int} (h0:0≤p) (h1:p≤1125899906842624-100):
  ∃(s:Str) (p':Int),j9 (f.e++[.l bs,.i p])=some [.s s,.l bs,.i p']∧(s=Go.Ev.bs #[]∨s=Go.Ev.bs #[103,111,110,101]∨∃k,∃hk:k<f.bts.length,s=f.bts[k].name)∧p≤p'∧p'≤p+10:=by
 have tb:∀x:Nat,x<2→∃v:Str,((rows [[C.s (Go.Ev.bs #[])],[C.s (Go.Ev.bs #[103,111,110,101])]]).getD x []).getD 0 .nil=.s v∧(v=Go.Ev.bs #[]∨v=Go.Ev.bs #[103,111,110,101]):=fun x hx=>by
  rcases x with _|_|x
  ·exact ⟨_,rfl,.inl rfl⟩
  ·exact ⟨_,rfl,.inr rfl⟩
  ·omega
 have t2:(rows [[C.s (Go.Ev.bs #[])],[C.s (Go.Ev.bs #[103,111,110,101])]]).length=2:=rfl
 simp only[j9,j9.d1,Fl.e,jA,jB,apL,jC,jD,C.L_l,jW]
 by_cases hc:f.bts.length=0
 ·have nc:((f.bts.length:Int)==0)=true:=by rw[hc];rfl
  obtain ⟨x,hx,g1⟩:=bc hb hl h0 (show p≤1125899906842624 by omega) (n:=2) (by omega) (by omega)
  obtain ⟨v,v1,v2⟩:=tb x (by omega)
  have l1:(x:Int)<((2:Nat):Int):=by omega
  refine ⟨v,p+1,?_,v2.elim .inl fun h=>.inr (.inl h),by omega,by omega⟩
  simp only[nc,jZ,jS,g1,call3,jI,jC,jD,C.I_i,jX,decide_true,jR,t2,l1,jY,v1,jV]
 ·have nc:((f.bts.length:Int)==0)=false:=by rw[beq_eq_false_iff_ne];omega
  obtain ⟨y,hy,g1⟩:=bc hb hl h0 (show p≤1125899906842624 by omega) (n:=16) (by omega) (by omega)
  simp only[nc,ja,jR,g1,call3,jI,jC,jD,C.I_i]
  cases hq:((y:Int)==0) with
  |true=>
   obtain ⟨x,hx,g2⟩:=bc hb hl (p:=p+1) (n:=2) (by omega) (by omega) (by omega) (by omega)
   obtain ⟨v,v1,v2⟩:=tb x (by omega)
   have l1:(x:Int)<((2:Nat):Int):=by omega
   refine ⟨v,p+1+1,?_,v2.elim .inl fun h=>.inr (.inl h),by omega,by omega⟩
   simp only[jR,g2,jI,jC,jD,C.I_i,jX,decide_true,t2,l1,jY,v1,jV]
  |false=>
   obtain ⟨x,hx,g2⟩:=bc hb hl (p:=p+1) (n:=(f.bts.length:Int)) (by omega) (by omega) (by omega) (by omega)
   have hx':x<f.bts.length:=by omega
   refine ⟨f.bts[x].name,p+1+1,?_,.inr (.inr ⟨x,hx',rfl⟩),by omega,by omega⟩
   simp only[jS,g2,jI,jC,jD,C.I_i,jX,decide_true,jR,ltL hx',jY]
   rw[getD_map' Bt.e hx']
   rfl
end
end Go.Ev
namespace Go.Ev
theorem DQ (L:List Str) (hl:L.length≤1048576):eF [.l (L.map sE),.l (L.map sE)]=some [.b true]:=by
 have hb:L.length<big:=by simp only[big];omega
 have h:=bH (body:=apn 3 eF.d1) (S:=fun i=>[.l (L.map sE),.l (L.map sE),.i (i:Nat)]) (n:=L.length) (b:=0) (ys:=[])
  (fun i hi=>by
   simp only[apL,jC,jD,eF.d1,C.I_i,C.L_l,jW,ltL hi,jX,decide_true,jR,jY,w1 hi hb]
   rw[getD_map' sE hi]
   simp only[sE,jC,C.S_s,beq_self_eq_true,jZ,jS])
  (by simp[eF.d1]) L.length 0 rfl
 have e:((L.length:Int) !=(L.length:Int))=false:=by simp
 simp only[Int.natCast_zero] at h
 simp only[eF,eF.d3,apL,jC,jD,C.L_l,jW,e,jS,h,au,eF.d2,jV]
theorem It (L:List Str) (s:Str) (hl:L.length≤1048576):gZ [.l (L.map sE),.s s]=some [.b (L.any fun x=>sEq x s)]:=by
 have hb:L.length<big:=by simp only[big];omega
 have key:∀d i,i+d=L.length→ah 0 (lim (apn 3 gZ.d1) [.l (L.map sE),.s s,.i (i:Nat)]) (fun xs=>gZ.d2)=some (.ret [.b ((L.drop i).any fun x=>sEq x s)]):=by
  intro d
  induction d with
  |zero=>
   intro i hi
   have:¬((i:Int)<(L.length:Int)):=by omega
   rw[aU (i:=0) (ys:=[]) (by simp only[apL,jC,jD,gZ.d1,C.I_i,C.L_l,jW,this,decide_false,jS]),au,List.drop_eq_nil_of_le (by omega)]
   rfl
  |succ d ih=>
   intro i hi
   have hlt:i<L.length:=by omega
   have stp:apn 3 gZ.d1 [.l (L.map sE),.s s,.i (i:Nat)]=bif sEq L[i] s then some (.ret [.b true]) else some (.again [.l (L.map sE),.s s,.i (i+1:Nat)]):=by
    simp only[apL,jC,jD,gZ.d1,C.I_i,C.L_l,C.S_s,jW,ltL hlt,jX,decide_true,jR,jY,w1 hlt hb]
    rw[getD_map' sE hlt]
    simp only[sE,jC,C.S_s,sEq]
   rw[List.drop_eq_getElem_cons hlt,List.any_cons]
   cases hq:sEq L[i] s with
   |true=>rw[lH (by rw[stp,hq];rfl),u6];rfl
   |false=>rw[aI (by rw[stp,hq];rfl),ih (i+1) (by omega),Bool.false_or]
 have:=key L.length 0 (by omega)
 simp only[Int.natCast_zero,List.drop_zero] at this
 simp only[gZ,gZ.d3,apL,jC,jD,this,jV]
end Go.Ev
namespace Go.Ev
end Go.Ev
namespace Go.Ev
end Go.Ev
namespace Go.Ev
section
variable {g:Fl} (h:VF g) {i:Nat} (hi:i<g.cps.length) {b:Bt} (hb:b∈g.bts) (hw:sEq g.cps[i].at_ (mkS [])=true) (hfit:eA g g.cps[i] b false=0) {j:Nat} (hj:j<g.cps.length) (hne:i≠j) {b':Bt} (hb':b'∈g.bts) (ha:sEq g.cps[j].at_ b'.name=true) (h0:eA g g.cps[j] b' true=0)
include h hi hb hw hfit hj hne hb' ha h0
end
end Go.Ev
namespace Go.Ev
structure PlI (f0 g:Fl) (n:Nat):Prop where
 b:g.bts=f0.bts
 s:g.svs=f0.svs
 p:g.pack=f0.pack
 l:g.cps.length=f0.cps.length
 c:∀i (h1:i<g.cps.length) (h2:i<f0.cps.length),g.cps[i].name=f0.cps[i].name∧(hS f0.cps[i]=false→g.cps[i]=f0.cps[i])
 n:(waits g).length+n=(waits f0).length
 r:Hv f0=[]→∀i (h1:i<g.cps.length),hS g.cps[i]=false→sEq g.cps[i].near g.cps[i].svc=false→∀b',b'∈g.bts→sEq g.cps[i].at_ b'.name=true→eA g g.cps[i] b' true=0
end Go.Ev
namespace Go.Ev
theorem He {f:Fl} (hz':f.Sz 1048576):cw f.e=some (G7 (AH f)):=by
 have h3:=gP hz'
 simp only[fe] at h3
 simp only[cw,cw.d3,fe,apL,jC,jD,h3,ad,jI,C.B_b,AH]
 cases hv:bO f with
 |false=>rfl
 |true=>
  have a:=lI hz'
  have b:=oj hz' hv
  have c:=CJ (GG hv) hz'
  rw[show (queue f).findSome? (sN f)=pE f from rfl,wm] at b
  simp only[fe] at a b
  simp only[spS,spT,List.map_nil] at c
  simp only[jZ,jS,jR,a,b,call4,jI,jC,jD,C.B_b,C.L_l,show af=([]:List (List C)) from rfl,c,au,apL,cw.d2,jV,G7]
theorem Ic (s:Str):(s.toList==s.toList)=true:=beq_self_eq_true _
theorem neI (n:Int):(n !=n)=false:=by simp
theorem AY {b:Bt} (h:b.marks.length≤1048576):ka (b.e++b.e)=some [.b true]:=by
 have hn:=DQ b.marks h
 simp only[ka,ka.d1,Bt.e,jA,jB,apL,jC,jD,C.S_s,C.I_i,C.B_b,Ic,beq_self_eq_true,jR,hn,ad,jI,jV]
theorem Be {c:Cp} (h:c.likes.length≤1048576):fv (c.e++c.e)=some [.b true]:=by
 have hb:c.likes.length<big:=by simp only[big];omega
 have k:=bH (body:=apn 25 fv.d1) (S:=fun i=>[C.i (i:Nat)]++c.e++c.e) (n:=c.likes.length) (b:=0) (ys:=[])
  (fun i hi=>by
   simp only[Cp.e,jA,jB,apL,jC,jD,fv.d1,C.I_i,C.L_l,jW,ltL hi,jX,decide_true,jR,jY,w1 hi hb]
   rw[getD_map' Lk.e hi]
   simp only[Lk.e,jC,jD,C.S_s,C.I_i,Ic,beq_self_eq_true,Bool.and_self,jZ,jS])
  (by simp[fv.d1,Cp.e]) c.likes.length 0 rfl
 simp only[Cp.e,jA,jB,Int.natCast_zero] at k
 simp only[fv,fv.d3,Cp.e,jA,jB,apL,jC,jD,C.S_s,C.I_i,C.L_l,Ic,neI,jZ,ja,jR,jS,k,au,fv.d2,jV]
theorem Aj {g:Fl} (hz:g.Sz 1048576):bL (g.e++g.e)=some [.b true]:=by
 have hb1:g.bts.length<big:=by have:=hz.1.1;simp only[big];omega
 have hb2:g.svs.length<big:=by have:=hz.2.1.1;simp only[big];omega
 have hb3:g.cps.length<big:=by have:=hz.2.2.1;simp only[big];omega
 have k1:=bH (body:=apn 9 bL.d1) (S:=fun i=>[C.i (i:Nat)]++g.e++g.e) (n:=g.bts.length) (b:=0) (ys:=g.e++g.e)
  (fun i hi=>by
   have hB:=AY (hz.1.2 _ (List.getElem_mem hi)).2.2.1
   simp only[Bt.e,jA,jB] at hB
   simp only[Fl.e,jA,jB,apL,jC,jD,bL.d1,C.I_i,C.L_l,jW,ltL hi,jX,decide_true,jR,jY,w1 hi hb1]
   rw[getD_map' Bt.e hi]
   simp only[Bt.e,jC,jD,hB,ad,jI,C.B_b,jZ,jS])
  (by simp[bL.d1,Fl.e]) g.bts.length 0 rfl
 have k2:=bH (body:=apn 9 bL.d2) (S:=fun i=>[C.i (i:Nat)]++g.e++g.e) (n:=g.svs.length) (b:=2) (ys:=g.e++g.e)
  (fun i hi=>by
   simp only[Fl.e,jA,jB,apL,jC,jD,bL.d2,C.I_i,C.L_l,jW,ltL hi,jX,decide_true,jR,jY,w1 hi hb2]
   rw[getD_map' Sv.e hi]
   simp only[Sv.e,jC,jD,C.S_s,C.I_i,Ic,beq_self_eq_true,Bool.and_self,jZ,jS])
  (by simp[bL.d2,Fl.e]) g.svs.length 0 rfl
 have k3:=bH (body:=apn 9 bL.d3) (S:=fun i=>[C.i (i:Nat)]++g.e++g.e) (n:=g.cps.length) (b:=4) (ys:=[])
  (fun i hi=>by
   have hC:=Be (hz.2.2.2 _ (List.getElem_mem hi)).2.2.2.2.2.2.1
   simp only[Cp.e,jA,jB] at hC
   simp only[Fl.e,jA,jB,apL,jC,jD,bL.d3,C.I_i,C.L_l,jW,ltL hi,jX,decide_true,jR,jY,w1 hi hb3]
   rw[getD_map' Cp.e hi]
   simp only[Cp.e,jC,jD,hC,ad,jI,C.B_b,jZ,jS])
  (by simp[bL.d3,Fl.e]) g.cps.length 0 rfl
 simp only[Fl.e,jA,jB,Int.natCast_zero] at k1 k2 k3
 simp only[bL,bL.d7,Fl.e,jA,jB,apL,jC,jD,C.B_b,C.L_l,jW,neI,beq_self_eq_true,jZ,ja,jR,jS,k1,au,bL.d6,k2,bL.d5,k3,bL.d4,jV]
end Go.Ev
namespace Go.Ev
section
variable {f g:Fl} {n:Nat} (hz:f.Sz 1048576) (gz:g.Sz 1048576) (hg:bO g=true) (P:PlI f g n) (hn:pE g=none)
include hz gz hg P hn
end
end Go.Ev
namespace Go.Ev
section
variable {f:Fl} (hz:f.Sz 1048576)
include hz
end
end Go.Ev
namespace Go.Ev
structure Kp (f:Fl) (t:Cp) (j:Nat) (r:List Cp):Prop where
 hj:j≤f.cps.length
 lo:∀m (hm:m<f.cps.length),m<j→sLt f.cps[m].name t.name=true
 hi:∀hj:j<f.cps.length,sLt f.cps[j].name t.name=false
 hr:(r=f.cps.drop (j+1)∧∀hj:j<f.cps.length,sEq f.cps[j].name t.name=true)∨(r=f.cps.drop j∧∀hj:j<f.cps.length,sEq f.cps[j].name t.name=false)
section
variable {f:Fl} (h:VF f) {t:Cp} {j:Nat} {r:List Cp} (I:Kp f t j r)
include h I
end
end Go.Ev
namespace Go.Ev
end Go.Ev
namespace Go.Ev
end Go.Ev
namespace Go.Ev
end Go.Ev
namespace Go.Ev
end Go.Ev
namespace Go.Ev
def Cp.q (c:Cp) (bs:List (List C)) (p:Int):List C:=[.s c.name,.s c.svc,.i c.rank,.i c.born,.i c.room,.i c.hold,.s c.sel,.i c.apart,.s c.near,.s c.fixed,.s c.at_,.l bs,.i p,.l (c.likes.map Lk.e)]
section
variable {bs:List (List C)} (hb:BY bs) (hl:bs.length≤2000)
include hb hl
theorem Gn {nm sv sel:Str} {rk bn rm hd:Int} {L:List Lk} (d e f g h i j k l m n z:C) (z1:nm.size≤1000) (z2:sv.size≤1000) (z3:sel.size≤1000) (z4:L.length≤20) (z5:∀x,x∈L→x.sel.size≤200) {p:Int} (h0:0≤p) (h1:p≤1125899906842624-100):
  ∃(c:Cp) (p':Int),apn 27 cf.d2 [.s sv,.l bs,.i p,d,e,f,g,h,i,j,k,l,m,n,.s nm,.s sv,.i rk,.i bn,.i rm,.i hd,.s sel,.i 0,.s (Go.Ev.bs #[]),.s (Go.Ev.bs #[]),.s (Go.Ev.bs #[]),z,.l (L.map Lk.e)]=some (.ret (c.q bs p'))∧c.Sz 1000∧p≤p'∧p'≤p+10:=by
 obtain ⟨x,hx,g1⟩:=bc hb hl h0 (show p≤1125899906842624 by omega) (n:=8) (by omega) (by omega)
 have key:∀(ap:Int) (nr fx:Str) (p':Int),nr.size≤1000→fx.size≤1000→p≤p'→p'≤p+10→∃(c:Cp) (q:Int),some (Out.ret [C.s nm,.s sv,.i rk,.i bn,.i rm,.i hd,.s sel,.i ap,.s nr,.s fx,.s (Go.Ev.bs #[]),.l bs,.i p',.l (L.map Lk.e)])=some (.ret (c.q bs q))∧c.Sz 1000∧p≤q∧q≤p+10:=fun ap nr fx p' hn hf q1 q2=>
  ⟨⟨nm,sv,rk,bn,rm,hd,sel,L,ap,nr,fx,Go.Ev.bs #[]⟩,p',rfl,⟨z1,z2,z3,hn,hf,by show (Go.Ev.bs #[]).size≤1000;decide,by show L.length≤1000;omega,fun x hx=>Nat.le_trans (z5 x hx) (by decide)⟩,q1,q2⟩
 have e0:(Go.Ev.bs #[]).size≤1000:=by decide
 simp only[apL,jC,jD,cf.d2,g1,call3,jI,C.I_i,C.L_l]
 cases q0:((x:Int)==0) with
 |true=>simp only[jR];exact key 1 _ _ _ e0 e0 (by omega) (by omega)
 |false=>
  cases q1:((x:Int)==1) with
  |true=>simp only[jR,jS];exact key 2 _ _ _ e0 e0 (by omega) (by omega)
  |false=>
   cases q2:((x:Int)==2) with
   |true=>
    obtain ⟨y,hy,g2⟩:=bc hb hl (p:=p+1) (n:=4) (by omega) (by omega) (by omega) (by omega)
    simp only[jR,jS,g2,jI,jC,jD,C.I_i,jX,decide_true]
    rcases y with _|_|_|_|y
    ·exact key 0 (Go.Ev.bs #[119,101,98]) _ _ (by decide) e0 (by omega) (by omega)
    ·exact key 0 (Go.Ev.bs #[100,98]) _ _ (by decide) e0 (by omega) (by omega)
    ·exact key 0 (Go.Ev.bs #[103,111,110,101]) _ _ (by decide) e0 (by omega) (by omega)
    ·exact key 0 sv _ _ z2 e0 (by omega) (by omega)
    ·omega
   |false=>
    cases q3:((x:Int)==3) with
    |true=>
     obtain ⟨y,hy,g2⟩:=bc hb hl (p:=p+1) (n:=3) (by omega) (by omega) (by omega) (by omega)
     simp only[jR,jS,g2,jI,jC,jD,C.I_i]
     cases q4:((y:Int)==0) with
     |true=>
      obtain ⟨w,hw,g3⟩:=bc hb hl (p:=p+1+1) (n:=4) (by omega) (by omega) (by omega) (by omega)
      obtain ⟨s,g4,hs⟩:=Eg (n:=w) (by omega)
      have b1:(Go.Ev.bs #[98]).size=1:=rfl
      have c1:1+s.size≤4294967296:=by omega
      simp only[jR,g3,g4,ad,jI,jC,jD,C.S_s,b1,c1,decide_true]
      exact key 0 _ _ _ e0 (by rw[ByteArray.size_append,b1];omega) (by omega) (by omega)
     |false=>simp only[jS];exact key 0 _ _ _ e0 e0 (by omega) (by omega)
    |false=>simp only[jS];exact key 0 _ _ _ e0 e0 (by omega) (by omega)
theorem Ci {n:Nat} (hn:n≤900) {p:Int} (h0:0≤p) (h1:p≤1125899906842624-20000):∃(c:Cp) (p':Int),cf [.i n,.l bs,.i p]=some (c.q bs p')∧c.Sz 1000∧p≤p'∧p'≤p+1000:=by
 obtain ⟨x1,k1,g1⟩:=bc hb hl h0 (show p≤1125899906842624 by omega) (n:=4) (by omega) (by omega)
 obtain ⟨s,g2,hs⟩:=Eg (n:=n) (by omega)
 obtain ⟨x3,k3,g3⟩:=bc hb hl (p:=p+1) (n:=6) (by omega) (by omega) (by omega) (by omega)
 obtain ⟨x4,k4,g4⟩:=bc hb hl (p:=p+1+1) (n:=30) (by omega) (by omega) (by omega) (by omega)
 obtain ⟨x5,k5,g5⟩:=bc hb hl (p:=p+1+1+1) (n:=7) (by omega) (by omega) (by omega) (by omega)
 obtain ⟨x6,k6,g6⟩:=bc hb hl (p:=p+1+1+1+1) (n:=8) (by omega) (by omega) (by omega) (by omega)
 obtain ⟨sel,p1,g7,a1,a2,a3⟩:=Hf hb hl (p:=p+1+1+1+1+1) (by omega) (by omega)
 obtain ⟨x8,k8,g8⟩:=bc hb hl (p:=p1) (n:=5) (by omega) (by omega) (by omega) (by omega)
 have w1:w64 ((x8:Int)-2)=(x8:Int)-2:=aQ (by omega) (by omega)
 have hsv:∃sv:Str,((rows [[C.s (Go.Ev.bs #[119,101,98])],[C.s (Go.Ev.bs #[100,98])],[C.s (Go.Ev.bs #[106,111,98])],[C.s (Go.Ev.bs #[99,97,99,104,101])]]).getD (x1:Int).toNat []).getD 0 .nil=.s sv∧sv.size≤10:=by
  rcases x1 with _|_|_|_|x1
  ·exact ⟨_,rfl,by decide⟩
  ·exact ⟨_,rfl,by decide⟩
  ·exact ⟨_,rfl,by decide⟩
  ·exact ⟨_,rfl,by decide⟩
  ·omega
 obtain ⟨sv,v1,v2⟩:=hsv
 have hrk:∃rk:Int,((rows [[C.i 1],[C.i 1],[C.i 5],[C.i 5],[C.i 9],[C.i 50]]).getD (x3:Int).toNat []).getD 0 .nil=.i rk:=by
  rcases x3 with _|_|_|_|_|_|x3
  ·exact ⟨_,rfl⟩
  ·exact ⟨_,rfl⟩
  ·exact ⟨_,rfl⟩
  ·exact ⟨_,rfl⟩
  ·exact ⟨_,rfl⟩
  ·exact ⟨_,rfl⟩
  ·omega
 obtain ⟨rk,r1⟩:=hrk
 have l1:decide ((x1:Int)<((rows [[C.s (Go.Ev.bs #[119,101,98])],[C.s (Go.Ev.bs #[100,98])],[C.s (Go.Ev.bs #[106,111,98])],[C.s (Go.Ev.bs #[99,97,99,104,101])]]).length:Int))=true:=by
  show decide ((x1:Int)<4)=true
  simp;omega
 have l3:decide ((x3:Int)<((rows [[C.i 1],[C.i 1],[C.i 5],[C.i 5],[C.i 9],[C.i 50]]).length:Int))=true:=by
  show decide ((x3:Int)<6)=true
  simp;omega
 have b1:(Go.Ev.bs #[45]).size=1:=rfl
 have b2:(sv++Go.Ev.bs #[45]).size=sv.size+1:=by rw[ByteArray.size_append];rfl
 have b3:((sv++Go.Ev.bs #[45])++s).size=sv.size+1+s.size:=by rw[ByteArray.size_append,b2]
 have c1:sv.size+1≤4294967296:=by omega
 have c2:sv.size+1+s.size≤4294967296:=by omega
 simp only[cf,cf.d3,apL,jC,jD,g1,g2,g3,g4,g5,g6,g7,g8,call3,ad,jI,C.I_i,jX,decide_true,jR,v1,r1,l1,l3,C.S_s,b1,b2,c1,c2,w1]
 obtain ⟨L,p2,q1,q2,q3,q4,q5⟩:=xA hb hl (.s sv) (.s (Go.Ev.bs #[])) (.s (Go.Ev.bs #[])) (.i 0) (.i 0) (.i 0) (.i 0) (.s (Go.Ev.bs #[])) (.i 0) (.s (Go.Ev.bs #[])) (.s (Go.Ev.bs #[])) (.s (Go.Ev.bs #[])) (.s ((sv++Go.Ev.bs #[45])++s)) (.s sv) (.i rk) (.i x4) (.i (w64 (1+(x5:Int)))) (.i x6) (.s sel) (.i 0) (.s (Go.Ev.bs #[])) (.s (Go.Ev.bs #[])) (.s (Go.Ev.bs #[])) 3 ((x8:Int)-2) (p1+1) [] (by omega) (by omega) (by omega) (by omega) (by omega) (by simp) (fun x hx=>by simp at hx)
 simp only[List.map_nil] at q1
 have q1':=q1
 erw[q1']
 obtain ⟨c,p3,r2,r3,r4,r5⟩:=Gn hb hl (nm:=(sv++Go.Ev.bs #[45])++s) (sv:=sv) (sel:=sel) (rk:=rk) (bn:=x4) (rm:=w64 (1+(x5:Int))) (hd:=x6) (L:=L) (.s (Go.Ev.bs #[])) (.s (Go.Ev.bs #[])) (.i 0) (.i 0) (.i 0) (.i 0) (.s (Go.Ev.bs #[])) (.i 0) (.s (Go.Ev.bs #[])) (.s (Go.Ev.bs #[])) (.s (Go.Ev.bs #[])) (.l af) (by rw[b3];omega) (by omega) (by omega) q2 q3 (p:=p2) (by omega) (by omega)
 refine ⟨c,p3,?_,r3,by omega,by omega⟩
 simp only[au]
 erw[r2]
 rfl
end
end Go.Ev
namespace Go.Ev
abbrev cU (f:Fl):List C:=[.l (f.bts.map Bt.e),.l (f.svs.map Sv.e),.l (f.cps.map Cp.e)]
abbrev Z0:List C:=[.s (Go.Ev.bs #[]),.s (Go.Ev.bs #[]),.i 0,.i 0,.b false]
def Cp.fl (c:Cp):List C:=[.s c.name,.s c.svc,.i c.rank,.i c.born,.i c.room,.i c.hold,.s c.sel,.i c.apart,.s c.near,.s c.fixed,.s c.at_]
def Cp.lk (c:Cp):List (List C):=c.likes.map Lk.e
abbrev oF (c:Cp):List C:=.i 3::(Z0++c.fl++[.s (Go.Ev.bs #[]),.s (Go.Ev.bs #[])])
abbrev uB (nm at_:Str):List C:=.i 5::(Z0++[.s (Go.Ev.bs #[]),.s (Go.Ev.bs #[]),.i 0,.i 0,.i 0,.i 0,.s (Go.Ev.bs #[]),.i 0,.s (Go.Ev.bs #[]),.s (Go.Ev.bs #[]),.s (Go.Ev.bs #[])]++[.s nm,.s at_])
theorem ur {c:Cp} (h:c.likes.length≤1048576):fY (c.fl++[.l c.lk])=some (c.fl++[.l c.lk,.l c.lk]):=by
 have:c.likes.length≤4294967296:=by omega
 simp[fY,fY.d1,Cp.fl,Cp.lk,this]
section
variable {f:Fl} (hz:f.Sz 1048576)
include hz
theorem pQ:bQ f.e=some ([C.b f.pack]++cU f++cU f):=by
 have hlb:f.bts.length<big:=by have:=hz.1.1;simp only[big];omega
 have hlc:f.cps.length<big:=by have:=hz.2.2.1;simp only[big];omega
 have h1:=bH (body:=apn 13 bQ.d1) (S:=fun i=>[C.i (i:Nat)]++cU f++[C.b f.pack,C.b false,C.b f.pack,.l af,.l af,.l af,C.l ((f.bts.take i).map Bt.e),C.l (f.svs.map Sv.e),.l af]) (n:=f.bts.length) (b:=0) (ys:=cU f++[C.b f.pack,C.b false,C.b f.pack,.l af,.l af,.l af,C.l ((f.bts.take f.bts.length).map Bt.e),C.l (f.svs.map Sv.e),.l af])
  (fun i hi=>by
   have hc:=qg (hz.1.2 _ (List.getElem_mem hi)).2.2.1
   have hn:(f.bts.take i).length+1≤4294967296:=by rw[List.length_take];have:=hz.1.1;omega
   have sn:=lK Bt.e hi
   simp only[Bt.e,Bt.o] at hc
   simp only[cU,jA,jB,apL,jC,jD,bQ.d1,C.I_i,C.L_l,jW,jY,getD_map' Bt.e hi,ltL hi,decide_true,jR,jX,w1 hi hlb]
   simp only[Bt.e] at sn
   simp only[Bt.e,jC,jD,hc,call6,jI,C.L_l,rows,List.length_cons,List.length_nil,Nat.zero_add,hn,decide_true,jR,sn])
  (by simp[bQ.d1,cU]) f.bts.length 0 rfl
 have h2:=bH (body:=apn 13 bQ.d2) (S:=fun i=>[C.i (i:Nat)]++cU f++[C.b f.pack,C.b false,C.b f.pack,.l af,.l af,.l af,C.l (f.bts.map Bt.e),C.l (f.svs.map Sv.e),C.l ((f.cps.take i).map Cp.e)]) (n:=f.cps.length) (b:=2) (ys:=cU f++[C.b false,C.b f.pack,.l af,.l af,.l af,C.l (f.bts.map Bt.e),C.l (f.svs.map Sv.e),C.l ((f.cps.take f.cps.length).map Cp.e)])
  (fun i hi=>by
   have hc:=rz (hz.2.2.2 _ (List.getElem_mem hi)).2.2.2.2.2.2.1
   have hn:(f.cps.take i).length+1≤4294967296:=by rw[List.length_take];have:=hz.2.2.1;omega
   have sn:=lK Cp.e hi
   simp only[Cp.e,Cp.o] at hc
   simp only[cU,jA,jB,apL,jC,jD,bQ.d2,C.I_i,C.L_l,jW,jY,getD_map' Cp.e hi,ltL hi,decide_true,jR,jX,w1 hi hlc]
   simp only[Cp.e] at sn
   simp only[Cp.e,jC,jD,hc,call12,jI,C.L_l,rows,List.length_cons,List.length_nil,Nat.zero_add,hn,decide_true,jR,sn])
  (by simp[bQ.d2,cU]) f.cps.length 0 rfl
 have hs:0+f.svs.length≤4294967296:=by have:=hz.2.1.1;omega
 simp only[cU,jA,jB,Int.natCast_zero,List.take_zero,List.map_nil,List.take_length] at h1 h2
 rw[show af=([]:List (List C)) from rfl] at h1 h2
 simp only[bQ,bQ.d5,Fl.e,apL,jC,jD,C.L_l,C.B_b,jW,show af=([]:List (List C)) from rfl,List.length_nil,hs,decide_true,jR,jB]
 rw[h1]
 simp only[au,apL,jC,jD,bQ.d4,C.L_l,jW]
 rw[h2]
 simp[bQ.d3]
abbrev evL (f:Fl) (E:List C) (mk lk:List (List C)):List C:=.b f.pack::(E++cU f++[.l mk,.l lk])
abbrev evR (f:Fl) (x:C) (pk:Bool) (mk lk:List (List C)) (g:Fl):List C:=[.b pk,x]++cU f++[.l mk,.l lk]++cU g
theorem Ed {c:Cp} (hc:c.Sz 1048576) (h60:f.cps.length≤1000):
  ∃l:List Cp,aM (evL f (oF c) [] c.lk)=some (evR f (.b true) f.pack [] c.lk {f with cps:=l})∧l.length≤f.cps.length+1∧∀x,x∈l→x∈f.cps∨x=c:=by
 have hF:=pQ hz
 have hco:=ur hc.2.2.2.2.2.2.1
 have hlc:f.cps.length<big:=by simp only[big];omega
 obtain ⟨j,hj,h1⟩:=IY (l:=f.cps) c.name (body:=apn 33 aM.d6) (S:=fun i=>[C.i (i:Nat)]++cU f++[.l [],.l c.lk]++oF c++[.b false,.b f.pack,.l [],.l [],.l []]++cU f)
  (fun i hi=>by
   simp only[evL,evR,oF,uB,cU,Z0,Cp.fl,jA,jB,apL,jC,jD,aM.d6,C.I_i,C.L_l,C.S_s,jW,jY,ltL hi,decide_true,jR,jX,w1 hi hlc]
   rw[getD_map' Cp.e hi]
   simp only[Cp.e,jC,C.S_s]
   rw[show Op.bytesLess f.cps[i].name.toList c.name.toList=sLt f.cps[i].name c.name from rfl]
   cases sLt f.cps[i].name c.name<;>simp)
  (by simp[Z0,Cp.fl,aM.d6,cU])
  f.cps.length 0 (by omega)
 have hrest:∃r:List Cp,(∀x,x∈r→x∈f.cps)∧r.length≤f.cps.length-j∧apn 33 aM.d8 ([C.i (j:Nat)]++cU f++[.l [],.l c.lk]++oF c++[.b false,.b f.pack,.l [],.l [],.l []]++cU f)=some (.ret (evR f (.b true) f.pack [] c.lk {f with cps:=f.cps.take j++[c]++r})):=by
  have d7:∀r:List Cp,r.length≤f.cps.length→apn 34 aM.d7 ([C.i (j:Nat),.l (r.map Cp.e)]++cU f++[.l [],.l c.lk]++oF c++[.b false,.b f.pack,.l (f.cps.map Cp.e),.l [],.l [],.l [],.l (f.bts.map Bt.e),.l (f.svs.map Sv.e)])=some (.ret (evR f (.b true) f.pack [] c.lk {f with cps:=f.cps.take j++[c]++r})):=fun r hr=>by
   have b1:(j:Int)≤(f.cps.length:Int):=by omega
   have b2:min j f.cps.length≤4294967296:=by omega
   have b3:min j f.cps.length+1≤4294967296:=by omega
   have b4:min j f.cps.length+1+r.length≤4294967296:=by omega
   simp only[Cp.fl,Cp.lk,jA,jB] at hco
   simp only[evL,evR,oF,uB,cU,Z0,Cp.fl,jA,jB,apL,jC,jD,aM.d7,C.I_i,C.L_l,jW,jY,jX,decide_true,jR,hco,call13,jI,b1,List.drop_zero,af,List.length_take,b2,Nat.zero_add,List.length_nil,List.length_append,rows,List.length_cons,b3,b4,List.map_append,List.map_cons,List.map_nil,List.map_take,Cp.e,Cp.lk]
  by_cases hn:j<f.cps.length
  ·have hd:f.cps.drop j=f.cps[j]::f.cps.drop (j+1):=List.drop_eq_getElem_cons hn
   have hl1:(f.cps.drop (j+1)).length≤f.cps.length:=by rw[List.length_drop];omega
   have hb1:(j:Int)≤(f.cps.length:Int):=by omega
   have e1:((f.cps.map Cp.e).take (f.cps.length:Int).toNat).drop (j:Int).toNat=f.cps[j].e::(f.cps.drop (j+1)).map Cp.e:=by
    rw[jY,jY,List.take_of_length_le (by rw[jW];omega),←List.map_drop,hd];rfl
   cases hq:sEq f.cps[j].name c.name with
   |true=>
    refine ⟨f.cps.drop (j+1),fun x hx=>List.mem_of_mem_drop hx,by rw[List.length_drop];omega,?_⟩
    rw[←d7 _ hl1]
    have e2:(f.cps[j].name.toList==c.name.toList)=true:=hq
    have hbs:=e1
    simp only[Cp.e] at hbs
    simp only[evL,evR,oF,uB,cU,Z0,Cp.fl,jA,jB,apL,jC,jD,aM.d8,C.I_i,C.L_l,C.S_s,jW,jX,decide_true,jR,hb1,Int.le_refl,e1,Cp.e,List.length_cons,e2,jJ]
    have t1:(((f.cps.drop (j+1)).length+1:Nat):Int)>0:=by omega
    have t2:(0:Int)<(((f.cps.drop (j+1)).length+1:Nat):Int):=by omega
    have t3:(1:Int)≤(((f.cps.drop (j+1)).length+1:Nat):Int):=by omega
    simp only[t1,t2,t3,decide_true,jR,jJ,jY,List.take_succ_cons,List.drop_succ_cons,List.drop_zero]
    rw[List.take_of_length_le (by rw[jW];exact Nat.le_refl _)]
    rfl
   |false=>
    refine ⟨f.cps.drop j,fun x hx=>List.mem_of_mem_drop hx,by rw[List.length_drop];omega,?_⟩
    rw[←d7 _ (by rw[List.length_drop];omega)]
    have e2:(f.cps[j].name.toList==c.name.toList)=false:=hq
    simp only[evL,evR,oF,uB,cU,Z0,Cp.fl,jA,jB,apL,jC,jD,aM.d8,C.I_i,C.L_l,C.S_s,jW,jX,decide_true,jR,hb1,Int.le_refl,e1,Cp.e,List.length_cons,e2,jJ]
    have t1:(((f.cps.drop (j+1)).length+1:Nat):Int)>0:=by omega
    have t2:(0:Int)<(((f.cps.drop (j+1)).length+1:Nat):Int):=by omega
    simp only[t1,t2,decide_true,jR,jS,jJ,hd,List.map_cons]
    rfl
  ·refine ⟨[],fun x hx=>by simp at hx,by simp,?_⟩
   rw[←d7 _ (by simp)]
   have e1:((f.cps.map Cp.e).take (f.cps.length:Int).toNat).drop (j:Int).toNat=[]:=by
    rw[jY,jY];apply List.drop_eq_nil_of_le;rw[List.length_take,jW];omega
   have hb1:(j:Int)≤(f.cps.length:Int):=by omega
   simp only[evL,evR,oF,uB,cU,Z0,Cp.fl,jA,jB,apL,jC,jD,aM.d8,C.I_i,C.L_l,C.S_s,jW,jX,decide_true,jR,hb1,Int.le_refl,e1,List.length_nil,jJ]
   rfl
 obtain ⟨r,r1,r2,r3⟩:=hrest
 refine ⟨f.cps.take j++[c]++r,?_,?_,fun x hx=>?_⟩
 ·simp only[aM,evL,evR,oF,uB,cU,Z0,Fl.e,Cp.fl,jA,jB] at hF h1 r3⊢
  simp only[aM.d9,apL,jC,jD,hF,call7,jI,C.I_i,C.L_l,af]
  simp only[show ((3:Int)==1)=false from rfl,show ((3:Int)==2)=false from rfl,show ((3:Int)==3)=true from rfl,jS,jR]
  simp only[Int.natCast_zero] at h1
  erw[h1]
  simp only[au,r3]
  rfl
 ·simp only[List.length_append,List.length_take,List.length_cons,List.length_nil];omega
 ·rcases List.mem_append.1 hx with hx|hx
  ·rcases List.mem_append.1 hx with hx|hx
   ·exact .inl (List.mem_of_mem_take hx)
   ·exact .inr (List.mem_singleton.1 hx)
  ·exact .inl (r1 x hx)
theorem HC (nm at_:Str) (h12:f.bts.length≤1000) (h60:f.cps.length≤1000):
  ∃(l:List Cp) (ok:Bool),aM (evL f (uB nm at_) [] [])=some (evR f (.b ok) f.pack [] [] {f with cps:=l})∧l.length=f.cps.length∧∀x,x∈l→x∈f.cps∨∃y,y∈f.cps∧x= {y with at_:=at_}:=by
 have hF:=pQ hz
 have hC:=fj f nm (by omega)
 have hB:=iw f at_ (by omega)
 have sd:=ji (fun x:Cp=>sEq x.name nm) f.cps 0
 have fin:aM (evL f (uB nm at_) [] [])=bif decide (cIx f nm<0) then some (evR f (.b false) f.pack [] [] f) else bif (!(at_.toList==(Go.Ev.bs #[]).toList))&&decide (bIx f at_<0) then some (evR f (.b false) f.pack [] [] f) else bif decide (0≤cIx f nm)&&decide (cIx f nm<(f.cps.length:Int)) then some ([C.b f.pack,.b true]++cU f++[.l [],.l []]++[.l (f.bts.map Bt.e),.l (f.svs.map Sv.e),.l ((f.cps.map Cp.e).set (cIx f nm).toNat (aE ((f.cps.map Cp.e).getD (cIx f nm).toNat []) 11 [.s at_]))]) else none:=by
  simp only[Fl.e,cU,jA,jB] at hF
  simp only[Fl.e,jA,jB] at hC hB
  simp only[aM,evL,evR,oF,uB,Z0,Fl.e,cU,jA,jB]
  simp only[aM.d9,apL,jC,jD,hF,call7,ad,jI,C.I_i,C.L_l,C.S_s,af,hC,hB]
  simp only[show ((5:Int)==1)=false from rfl,show ((5:Int)==2)=false from rfl,show ((5:Int)==3)=false from rfl,show ((5:Int)==4)=false from rfl,show ((5:Int)==5)=true from rfl,jS,jR]
  rw[jW]
  cases decide (cIx f nm<0)<;>cases (at_.toList==(Go.Ev.bs #[]).toList)<;>cases decide (bIx f at_<0)<;>cases decide (0≤cIx f nm)<;>cases decide (cIx f nm<(f.cps.length:Int))<;>rfl
 rw[fin]
 rcases sd with sd|⟨i,hi,e1,e2⟩
 ·rw[show decide (cIx f nm<0)=true from decide_eq_true sd,jR]
  exact ⟨f.cps,false,rfl,rfl,fun x hx=>.inl hx⟩
 ·have e1:cIx f nm=((i:Nat):Int):=by rw[show cIx f nm=fu (fun x:Cp=>sEq x.name nm) f.cps 0 from rfl,e1,Nat.zero_add]
  rw[e1,show decide (((i:Nat):Int)<0)=false from decide_eq_false (by omega),jS]
  cases (!(at_.toList==(Go.Ev.bs #[]).toList))&&decide (bIx f at_<0) with
  |true=>exact ⟨f.cps,false,rfl,rfl,fun x hx=>.inl hx⟩
  |false=>
   rw[jS,ltL hi,show decide (0≤((i:Nat):Int))=true from decide_eq_true (by omega),jY,getD_map' Cp.e hi]
   refine ⟨f.cps.set i {f.cps[i] with at_:=at_},true,?_,List.length_set,fun x hx=>?_⟩
   ·simp only[evR,cU,List.map_set];rfl
   ·rcases List.mem_or_eq_of_mem_set hx with hx|hx
    ·exact .inl hx
    ·exact .inr ⟨_,List.getElem_mem hi,hx⟩
theorem AA {k:Int} (hk1:1≤k) (hk5:k≤5) {E:List C} (hE:E.length=18) {mk lk:List (List C)} {l:List Cp} {ok:Bool} (hx:({f with cps:=l}:Fl).Sz 1048576) (he:aM (evL f (.i k::E) mk lk)=some (evR f (.b ok) f.pack mk lk {f with cps:=l})):
  ∃(x:Fl) (code:Int),bS (evL f (.i k::E) mk lk)=some (evR f (.i code) x.pack mk lk x)∧(code=0→x= {f with cps:=l}∧bO x=true):=by
 have v1:=gP hz
 have v2:=gP hx
 have w:=fO k 1 5
 have w':within k 1 5=true:=by simp[within,hk1,hk5]
 have z:∀code:Int,code≠0→∃(x:Fl) (c:Int),some ([C.b false,.i code]++cU f++[.l mk,.l lk,.l [],.l [],.l []])=some (evR f (.i c) x.pack mk lk x)∧(c=0→x= {f with cps:=l}∧bO x=true):=fun code h=>⟨⟨false,[],[],[]⟩,code,rfl,fun h'=>absurd h' h⟩
 match E,hE with
 |[e1,e2,e3,e4,e5,e6,e7,e8,e9,e10,e11,e12,e13,e14,e15,e16,e17,e18],_=>
  simp only[evL,evR,Fl.e,cU,jA,jB] at he v1 v2 z⊢
  simp only[bS,bS.d2,evL,cU,jA,jB,apL,jC,jD,C.L_l,v1,ad,jI,he,call10,C.B_b,v2,af]
  cases hv:bO f with
  |false=>exact z 1 (by decide)
  |true=>
   cases ok with
   |false=>exact z 3 (by decide)
   |true=>
    cases hv2:bO {f with cps:=l} with
    |false=>exact z 2 (by decide)
    |true=>
     refine ⟨{f with cps:=l},0,?_,fun _=>⟨rfl,hv2⟩⟩
     simp only[bS.d1,apL,jC,jD,jZ,jS,jR,jJ,C.B_b,w,w',ad,jI,C.L_l]
     rfl
end
end Go.Ev
namespace Go.Ev
section
variable {bts:List Bt} {svs:List Sv} {pk:Bool} (hbt:bts.length≤12∧∀b,b∈bts→b.Sz 1000) (hsv:svs.length≤30∧∀s,s∈svs→s.Sz 1000)
include hbt hsv
theorem Dr.oF {f:Fl} (D:Dr bts svs pk f) {c:Cp} (hc:c.Sz 1000):
  ∃(x:Fl) (code:Int),bS (evL f (Go.Ev.oF c) [] c.lk)=some (evR f (.i code) x.pack [] c.lk x)∧(code=0→Dr bts svs pk x):=by
 have hz:=(D.szD hbt hsv).up
 obtain ⟨l,h1,h2,h3⟩:=Ed hz hc.up (by have:=D.n;omega)
 have hl:∀x,x∈l→x.Sz 1000:=fun x hx=>(h3 x hx).elim (D.z x) (fun e=>e▸hc)
 have hx:({f with cps:=l}:Fl).Sz 1048576:=⟨hz.1,hz.2.1,by show l.length≤1048576;have:=D.n;omega,fun x h=>(hl x h).up⟩
 obtain ⟨x,code,g1,g2⟩:=AA hz (by decide) (by decide) (by simp[Z0,Cp.fl]) hx h1
 refine ⟨x,code,g1,fun h=>?_⟩
 obtain ⟨rfl,q⟩:=g2 h
 exact ⟨D.b,D.s,D.p,uO (eZ q),hl,.inr q⟩
theorem Dr.uB {f:Fl} (D:Dr bts svs pk f) {nm at_:Str} (ha:at_.size≤1000):
  ∃(x:Fl) (code:Int),bS (evL f (Go.Ev.uB nm at_) [] [])=some (evR f (.i code) x.pack [] [] x)∧(code=0→Dr bts svs pk x):=by
 have hz:=(D.szD hbt hsv).up
 obtain ⟨l,ok,h1,h2,h3⟩:=HC hz nm at_ (by rw[D.b];omega) (by have:=D.n;omega)
 have hl:∀x,x∈l→x.Sz 1000:=fun x hx=>(h3 x hx).elim (D.z x) (fun ⟨y,hy,e⟩=>by
  have:=D.z y hy
  rw[e]
  exact ⟨this.1,this.2.1,this.2.2.1,this.2.2.2.1,this.2.2.2.2.1,ha,this.2.2.2.2.2.2⟩)
 have hx:({f with cps:=l}:Fl).Sz 1048576:=⟨hz.1,hz.2.1,by show l.length≤1048576;have:=D.n;omega,fun x h=>(hl x h).up⟩
 obtain ⟨x,code,g1,g2⟩:=AA hz (by decide) (by decide) (by simp[Z0]) hx h1
 refine ⟨x,code,g1,fun h=>?_⟩
 obtain ⟨rfl,q⟩:=g2 h
 exact ⟨D.b,D.s,D.p,uO (eZ q),hl,.inr q⟩
end
section
variable {bs:List (List C)} (hb:BY bs) (hl:bs.length≤2000)
include hb hl
abbrev nl3:List C:=[.l [],.l [],.l []]
section
variable {bts:List Bt} {svs:List Sv} {pk:Bool} (hbt:bts.length≤12∧∀b,b∈bts→b.Sz 1000) (hsv:svs.length≤30∧∀s,s∈svs→s.Sz 1000)
include hbt hsv
theorem Jv (k:C):∀(n:Nat) (f:Fl) (p:Int),Dr bts svs pk f→n≤20→0≤p→p≤1125899906842624-35000+(0-1000)*n→
  ∃(f':Fl) (p':Int),lim (apn 12 aN.d3) ([k,.i n,.l bs,.i p,.b false,.b f.pack]++nl3++cU f)=some (.brk 4 ([k,.l bs,.i p',.b false,.b f'.pack]++nl3++cU f'))∧Dr bts svs pk f'∧p≤p'∧p'≤p+1000*n:=by
 intro n
 induction n with
 |zero=>
  intro f p D hn h0 h1
  refine ⟨f,p,aU ?_,D,by omega,by omega⟩
  rfl
 |succ n ih=>
  intro f p D hn h0 h1
  obtain ⟨c,p1,g1,a1,a2,a3⟩:=Ci hb hl (n:=n+1) (by omega) (p:=p) h0 (by omega)
  obtain ⟨x,code,e1,e2⟩:=D.oF hbt hsv a1
  have c0:(((n+1:Nat):Int)>0):=by omega
  have ww:w64 (((n+1:Nat):Int)-1)=(n:Int):=by rw[aQ (by omega) (by omega)];omega
  have stp:apn 12 aN.d3 ([k,.i (n+1:Nat),.l bs,.i p,.b false,.b f.pack]++nl3++cU f)=bif code==0 then some (.again ([k,.i n,.l bs,.i p1,.b false,.b x.pack]++nl3++cU x)) else some (.again ([k,.i n,.l bs,.i p1,.b false,.b f.pack]++nl3++cU f)):=by
   simp only[evL,evR,cU,oF,Z0,Cp.fl,Cp.lk,jA,jB] at e1
   simp only[Cp.q] at g1
   simp only[nl3,cU,jA,jB,apL,jC,jD,aN.d3,C.I_i,c0,decide_true,jR,g1,call14,jI,af,C.L_l,e1,call10,ww]
  cases hq:(code==0) with
  |true=>
   obtain ⟨f',p',q1,q2,q3,q4⟩:=ih x p1 (e2 (by simpa using hq)) (by omega) (by omega) (by omega)
   refine ⟨f',p',?_,q2,by omega,by omega⟩
   rw[aI (by rw[stp,hq];rfl),q1]
  |false=>
   obtain ⟨f',p',q1,q2,q3,q4⟩:=ih f p1 D (by omega) (by omega) (by omega)
   refine ⟨f',p',?_,q2,by omega,by omega⟩
   rw[aI (by rw[stp,hq];rfl),q1]
end
section
variable {bts:List Bt} {svs:List Sv} {pk:Bool} (hbt:(1≤bts.length∧bts.length≤12)∧∀b,b∈bts→b.Sz 1000) (hsv:svs.length≤30∧∀s,s∈svs→s.Sz 1000)
include hbt hsv
abbrev stf (k:C) (i:Int) (bs:List (List C)) (p:Int) (f:Fl):List C:=[k,.i i,.l bs,.i p,.b false,.b f.pack]++nl3++cU f
theorem Jr (k:C) {f:Fl} (D:Dr bts svs pk f) {i:Nat} (hi:i<f.cps.length) (b:Bt) (hbb:b.name.size≤1000) (fl:Bool) (p:Int):
  ∃f',apn 19 aN.d4 ([k,.i i,.b fl,.l bs,.i p,.b false,.b f.pack]++b.e++nl3++cU f)=some (.again (stf k (i+1:Nat) bs p f'))∧Dr bts svs pk f':=by
 have hlc:f.cps.length<big:=by have:=D.n;simp only[big];omega
 obtain ⟨x,code,e1,e2⟩:=D.uB ⟨hbt.1.2,hbt.2⟩ hsv (nm:=f.cps[i].name) (at_:=b.name) hbb
 cases fl with
 |false=>
  refine ⟨f,?_,D⟩
  simp only[stf,nl3,cU,Bt.e,jA,jB,apL,jC,jD,aN.d4,C.B_b,jS,C.I_i,w1 hi hlc,C.L_l]
 |true=>
  have stp:apn 19 aN.d4 ([k,.i i,.b true,.l bs,.i p,.b false,.b f.pack]++b.e++nl3++cU f)=bif code==0 then some (.again (stf k (i+1:Nat) bs p x)) else some (.again (stf k (i+1:Nat) bs p f)):=by
   simp only[evL,evR,cU,uB,Z0,jA,jB] at e1
   simp only[stf,nl3,cU,Bt.e,jA,jB,apL,jC,jD,aN.d4,C.B_b,jR,C.I_i,w1 hi hlc,C.L_l,jW,ltL hi,jX,decide_true,jY]
   rw[getD_map' Cp.e hi]
   simp only[Cp.e,jC,jD,af]
   simp only[e1,call10,jI,jC,jD,C.I_i,C.L_l]
  cases hq:(code==0) with
  |true=>exact ⟨x,by rw[stp,hq];rfl,e2 (by simpa using hq)⟩
  |false=>exact ⟨f,by rw[stp,hq];rfl,D⟩
theorem Jx (a:Int):∀(d i:Nat) (f:Fl) (p:Int),60≤i+d→Dr bts svs pk f→0≤p→p≤1125899906842624-20000+(0-10)*d→
  ∃(f':Fl) (p':Int),lim (apn 12 aN.d5) (stf (.i a) i bs p f)=some (.brk 6 ([.l bs,.i p',.b false,.b f'.pack]++nl3++cU f'))∧Dr bts svs pk f'∧p≤p'∧p'≤p+10*d:=by
 intro d
 induction d with
 |zero=>
  intro i f p hn D h0 h1
  refine ⟨f,p,aU ?_,D,by omega,by omega⟩
  have:¬((i:Int)<(f.cps.length:Int)):=by have:=D.n;omega
  simp only[stf,nl3,cU,jA,jB,apL,jC,jD,aN.d5,C.I_i,C.L_l,jW,this,decide_false,jS]
 |succ d ih=>
  intro i f p hn D h0 h1
  by_cases hi:i<f.cps.length
  ·have hlc:f.cps.length<big:=by have:=D.n;simp only[big];omega
   have hne:f.cps≠[]:=fun h=>by rw[h] at hi;simp at hi
   have hv:bO f=true:=D.v.resolve_left hne
   have hz:=(D.szD ⟨hbt.1.2,hbt.2⟩ hsv).up
   obtain ⟨m,hm,g1⟩:=bc hb hl h0 (show p≤1125899906842624 by omega) (n:=4) (by omega) (by omega)
   have hn1:f.bts.length=bts.length:=by rw[D.b]
   obtain ⟨j,hj,g2⟩:=bc hb hl (p:=p+1) (n:=(f.bts.length:Int)) (by omega) (by omega) (by omega) (by omega)
   have hj':j<f.bts.length:=by omega
   obtain ⟨t,ht,g3⟩:=bc hb hl (p:=p+1+1) (n:=8) (by omega) (by omega) (by omega) (by omega)
   have hcm:=List.getElem_mem hi
   have hbm:=List.getElem_mem hj'
   have vb:=eZ hv
   have hf:=mQ hz (hz.2.2.2 _ hcm) (hz.1.2 _ hbm) (vb.bb _ hbm) vb (vb.cb _ hcm).1 (vb.cb _ hcm).2.1 true
   have hbs:(f.bts[j]).name.size≤1000:=by
    have:f.bts[j]∈bts:=by rw[←D.b];exact hbm
    exact (hbt.2 _ this).1
   have key:∀(fl:Bool) (q:Int),p≤q→q≤p+10→∃(f':Fl) (p':Int),(∃ys,apn 19 aN.d4 ([.i a,.i i,.b fl,.l bs,.i q,.b false,.b f.pack]++f.bts[j].e++nl3++cU f)=some (.again ys)∧lim (apn 12 aN.d5) ys=some (.brk 6 ([.l bs,.i p',.b false,.b f'.pack]++nl3++cU f')))∧Dr bts svs pk f'∧p≤p'∧p'≤p+10*(d+1:Nat):=fun fl q q1 q2=>by
    obtain ⟨x,r1,r2⟩:=Jr hb hl hbt hsv (.i a) D hi f.bts[j] hbs fl q
    obtain ⟨f',p',r3,r4,r5,r6⟩:=ih (i+1) x q (by omega) r2 (by omega) (by omega)
    exact ⟨f',p',⟨_,r1,r3⟩,r4,by omega,by omega⟩
   have key0:∃(f':Fl) (p':Int),(∃ys,some (Out.again (stf (.i a) (i+1:Nat) bs (p+1) f))=some (.again ys)∧lim (apn 12 aN.d5) ys=some (.brk 6 ([.l bs,.i p',.b false,.b f'.pack]++nl3++cU f')))∧Dr bts svs pk f'∧p≤p'∧p'≤p+10*(d+1:Nat):=by
    obtain ⟨f',p',r3,r4,r5,r6⟩:=ih (i+1) f (p+1) (by omega) D (by omega) (by omega)
    exact ⟨f',p',⟨_,rfl,r3⟩,r4,by omega,by omega⟩
   have stp:apn 12 aN.d5 (stf (.i a) i bs p f)=bif decide ((m:Int)<a) then (bif !((eA f f.cps[i] f.bts[j] true:Nat):Int)==0 then bif decide (((eA f f.cps[i] f.bts[j] true:Nat):Int)<6) then apn 19 aN.d4 ([.i a,.i i,.b ((t:Int)==0),.l bs,.i (p+1+1+1),.b false,.b f.pack]++f.bts[j].e++nl3++cU f) else apn 19 aN.d4 ([.i a,.i i,.b false,.l bs,.i (p+1+1),.b false,.b f.pack]++f.bts[j].e++nl3++cU f) else apn 19 aN.d4 ([.i a,.i i,.b true,.l bs,.i (p+1+1),.b false,.b f.pack]++f.bts[j].e++nl3++cU f)) else some (.again (stf (.i a) (i+1:Nat) bs (p+1) f)):=by
    simp only[Fl.e,Cp.e,Bt.e,jA,jB] at hf
    simp only[stf,nl3,cU,jA,jB,apL,jC,jD,aN.d5,C.I_i,C.L_l,jW,ltL hi,decide_true,jR,g1,call3,jI,g2,jX,ltL hj',jY,w1 hi hlc]
    rw[getD_map' Cp.e hi,getD_map' Bt.e hj']
    simp only[Cp.e,Bt.e,jC,jD]
    simp only[hf,ad,jI,jC,jD,C.I_i,g3,C.L_l]
    cases decide ((m:Int)<a)<;>cases (((eA f f.cps[i] f.bts[j] true:Nat):Int)==0)<;>cases decide (((eA f f.cps[i] f.bts[j] true:Nat):Int)<6)<;>rfl
   have fin:∃(f':Fl) (p':Int),(∃ys,apn 12 aN.d5 (stf (.i a) i bs p f)=some (.again ys)∧lim (apn 12 aN.d5) ys=some (.brk 6 ([.l bs,.i p',.b false,.b f'.pack]++nl3++cU f')))∧Dr bts svs pk f'∧p≤p'∧p'≤p+10*(d+1:Nat):=by
    rw[stp]
    cases decide ((m:Int)<a) with
    |false=>exact key0
    |true=>
     cases (((eA f f.cps[i] f.bts[j] true:Nat):Int)==0) with
     |true=>exact key true _ (by omega) (by omega)
     |false=>
      cases decide (((eA f f.cps[i] f.bts[j] true:Nat):Int)<6) with
      |true=>exact key _ _ (by omega) (by omega)
      |false=>exact key false _ (by omega) (by omega)
   obtain ⟨f',p',⟨ys,r1,r2⟩,r3,r4,r5⟩:=fin
   exact ⟨f',p',by rw[aI r1,r2],r3,r4,r5⟩
  ·refine ⟨f,p,aU ?_,D,by omega,by omega⟩
   have:¬((i:Int)<(f.cps.length:Int)):=by omega
   simp only[stf,nl3,cU,jA,jB,apL,jC,jD,aN.d5,C.I_i,C.L_l,jW,this,decide_false,jS]
end
theorem GD {p:Int} (h0:0≤p) (h1:p≤1125899906842624-70000):
  ∃(bts:List Bt) (svs:List Sv) (pk:Bool) (f:Fl) (p':Int),aN [.l bs,.i p]=some ([C.b f.pack,.l bs,.i p']++cU f)∧Dr bts svs pk f∧((1≤bts.length∧bts.length≤12)∧∀b,b∈bts→b.Sz 1000)∧(svs.length=4∧∀s,s∈svs→s.Sz 1000)∧p≤p'∧p'≤p+30000:=by
 obtain ⟨c,hc,g1⟩:=bc hb hl h0 (show p≤1125899906842624 by omega) (n:=2) (by omega) (by omega)
 obtain ⟨n,hn,g2⟩:=bc hb hl (p:=p+1) (n:=5) (by omega) (by omega) (by omega) (by omega)
 have w2:w64 (1+(n:Int))=((n+1:Nat):Int):=by rw[aQ (by omega) (by omega)];omega
 obtain ⟨bts,p1,q1,q2,q3,q4,q5⟩:=JW hb hl ((c:Int)==0) (n+1) (n+1) [] (p+1+1) (by simp) (by omega) (fun b hb=>by simp at hb) (by omega) (by omega)
 obtain ⟨svs,p2,r1,r2,r3,r4,r5⟩:=J0 hb hl ((c:Int)==0) (bts.map Bt.e) 4 [] p1 (by simp) (fun b hb=>by simp at hb) (by omega) (by omega)
 obtain ⟨k,hk,g3⟩:=bc hb hl (p:=p2) (n:=4) (by omega) (by omega) (by omega) (by omega)
 obtain ⟨m,hm,g4⟩:=bc hb hl (p:=p2+1) (n:=14) (by omega) (by omega) (by omega) (by omega)
 have w3:w64 (1+(m:Int))=((m+1:Nat):Int):=by rw[aQ (by omega) (by omega)];omega
 have D0:Dr bts svs ((c:Int)==0) ⟨((c:Int)==0),bts,svs,[]⟩:=⟨rfl,rfl,rfl,by simp,fun c hc=>by simp at hc,.inl rfl⟩
 obtain ⟨f1,p3,t1,t2,t3,t4⟩:=Jv hb hl ⟨by omega,q3⟩ ⟨by omega,r3⟩ (.i k) (m+1) _ (p2+1+1) D0 (by omega) (by omega) (by omega)
 obtain ⟨f2,p4,u1,u2,u3,u4⟩:=Jx hb hl ⟨⟨by omega,by omega⟩,q3⟩ ⟨by omega,r3⟩ (k:Int) 60 0 f1 p3 (by omega) t2 (by omega) (by omega)
 refine ⟨bts,svs,(c:Int)==0,f2,p4,?_,u2,⟨⟨by omega,by omega⟩,q3⟩,⟨r2,r3⟩,by omega,by omega⟩
 simp only[List.map_nil,List.length_nil,Int.natCast_zero] at q1 r1
 simp only[stf,nl3,cU,jA,jB,List.map_nil,Int.natCast_zero] at t1 u1
 simp only[aN,aN.d10,apL,jC,jD,g1,g2,call3,jI,C.I_i,w2,af,q1,au,aN.d9,C.L_l,r1,aN.d8,g3,g4,w3,t1,aN.d7,u1,aN.d6]
 rfl
end
end Go.Ev
namespace Go.Ev
structure Ti (f:Fl):Prop where
 z:f.Sz 1000
 n:f.cps.length≤60
 nb:f.bts.length≤12
 ns:f.svs.length≤30
 al:(1≤f.bts.length∧f.svs.length=4)∨f.bts=[]
theorem Ti.set {f:Fl} (T:Ti f) (i:Nat) {c:Cp} (hc:c.Sz 1000):Ti {f with cps:=f.cps.set i c}:=
 ⟨⟨T.z.1,T.z.2.1,by show (f.cps.set i c).length≤1000;rw[List.length_set];have:=T.n;omega,fun x hx=>(List.mem_or_eq_of_mem_set hx).elim (T.z.2.2.2 x) fun e=>e▸hc⟩,by show (f.cps.set i c).length≤60;rw[List.length_set];exact T.n,T.nb,T.ns,T.al⟩
theorem CA:∀(k:Nat) (f:Fl) (s:List Sp),VF f→Ti f→Ti (place k f s).1
 |0,f,s,_,h=>h
 |k+1,f,s,hv,h=>by
  cases hx:pE f with
  |none=>rw[wM hx];exact h
  |some x=>
   obtain ⟨F⟩:=yu hv hx
   simp only[place,hx]
   refine CA k _ _ (F.valid hv) ?_
   rw[F.put]
   have hc:=h.z.2.2.2 _ (List.getElem_mem F.hi)
   exact h.set F.i ⟨hc.1,hc.2.1,hc.2.2.1,hc.2.2.2.1,hc.2.2.2.2.1,(h.z.1.2 _ F.hb).1,hc.2.2.2.2.2.2⟩
theorem E6 {f:Fl} (h:Ti f):Ti (AH f).1:=by
 unfold AH
 cases hv:bO f with
 |false=>exact ⟨⟨⟨by simp[fl0],fun b h=>by simp[fl0] at h⟩,⟨by simp[fl0],fun b h=>by simp[fl0] at h⟩,by simp[fl0],fun b h=>by simp[fl0] at h⟩,by simp[fl0],by simp[fl0],by simp[fl0],.inr rfl⟩
 |true=>exact CA 60 f [] (GG hv) h
theorem Ti.oF {f:Fl} (T:Ti f) {c:Cp} (hc:c.Sz 1000):
  ∃(x:Fl) (code:Int),bS (evL f (Go.Ev.oF c) [] c.lk)=some (evR f (.i code) x.pack [] c.lk x)∧(code=0→Ti x):=by
 have hz:=T.z.up
 obtain ⟨l,h1,h2,h3⟩:=Ed hz hc.up (by have:=T.n;omega)
 have hl:∀x,x∈l→x.Sz 1000:=fun x hx=>(h3 x hx).elim (T.z.2.2.2 x) (fun e=>e▸hc)
 have hx:({f with cps:=l}:Fl).Sz 1048576:=⟨hz.1,hz.2.1,by show l.length≤1048576;have:=T.n;omega,fun x h=>(hl x h).up⟩
 obtain ⟨x,code,g1,g2⟩:=AA hz (by decide) (by decide) (by simp[Z0,Cp.fl]) hx h1
 refine ⟨x,code,g1,fun h=>?_⟩
 obtain ⟨rfl,q⟩:=g2 h
 have h60:=uO (eZ q)
 exact ⟨⟨T.z.1,T.z.2.1,by show l.length≤1000;have:l.length≤60:=h60;omega,hl⟩,h60,T.nb,T.ns,T.al⟩
section
variable {bs:List (List C)} (hb:BY bs) (hl:bs.length≤2000)
include hb hl
abbrev stT (i:Int) (bs:List (List C)) (p:Int) (f:Fl):List C:=[.i i,.l bs,.i p,.b false,.b f.pack]++nl3++cU f
theorem J4 {f:Fl} (T:Ti f) {i:Nat} (hi:i<f.cps.length) {p:Int} (h0:0≤p) (h1:p≤1125899906842624-100):
  ∃(c:Cp) (p':Int),apn 11 aL.d2 (stT i bs p f)=some (.again (stT (i+1:Nat) bs p' {f with cps:=f.cps.set i c}))∧c.Sz 1000∧p≤p'∧p'≤p+10:=by
 have hlc:f.cps.length<big:=by have:=T.n;simp only[big];omega
 have hc:=T.z.2.2.2 _ (List.getElem_mem hi)
 have e0:(Go.Ev.bs #[]).size≤1000:=by decide
 have r11:((f.cps.map Cp.e).getD i []).getD 11 .nil=.s f.cps[i].at_:=by rw[getD_map' Cp.e hi];rfl
 obtain ⟨x,hx,g1⟩:=bc hb hl h0 (show p≤1125899906842624 by omega) (n:=4) (by omega) (by omega)
 obtain ⟨y,hy,g2⟩:=bc hb hl h0 (show p≤1125899906842624 by omega) (n:=6) (by omega) (by omega)
 obtain ⟨z,hz,g3⟩:=bc hb hl (p:=p+1) (n:=2) (by omega) (by omega) (by omega) (by omega)
 have s0:(f.cps.map Cp.e).set i (aE ((f.cps.map Cp.e).getD i []) 2 [.i x])=(f.cps.set i {f.cps[i] with rank:=x}).map Cp.e:=oW hi rfl
 have s1:(f.cps.map Cp.e).set i (aE ((f.cps.map Cp.e).getD i []) 2 [.i (w64 (2+(y:Int)))])=(f.cps.set i {f.cps[i] with rank:=w64 (2+(y:Int))}).map Cp.e:=oW hi rfl
 obtain ⟨c1,hc1⟩:∃c1:Cp,c1= {f.cps[i] with rank:=w64 (2+(y:Int))}:=⟨_,rfl⟩
 rw[←hc1] at s1
 have hi1:i<(f.cps.set i c1).length:=by rw[List.length_set];exact hi
 have g11:(f.cps.set i c1)[i]=c1:=List.getElem_set_self _
 have s2:((f.cps.set i c1).map Cp.e).set i (aE (((f.cps.set i c1).map Cp.e).getD i []) 6 [.s (Go.Ev.bs #[])])=((f.cps.set i c1).set i {c1 with sel:=Go.Ev.bs #[]}).map Cp.e:=oW hi1 (by rw[g11];rfl)
 obtain ⟨c2,hc2⟩:∃c2:Cp,c2= {c1 with sel:=Go.Ev.bs #[]}:=⟨_,rfl⟩
 rw[←hc2,List.set_set] at s2
 have hi2:i<(f.cps.set i c2).length:=by rw[List.length_set];exact hi
 have g12:(f.cps.set i c2)[i]=c2:=List.getElem_set_self _
 have s3:((f.cps.set i c2).map Cp.e).set i (aE (((f.cps.set i c2).map Cp.e).getD i []) 9 [.s (Go.Ev.bs #[])])=((f.cps.set i c2).set i {c2 with near:=Go.Ev.bs #[]}).map Cp.e:=oW hi2 (by rw[g12];rfl)
 rw[List.set_set] at s3
 simp only[stT,nl3,cU,jA,jB,apL,jC,jD,aL.d2,C.I_i,C.L_l,jW,ltL hi,decide_true,jR,jX,jY,r11,C.S_s,g1,g2,call3,jI,s0,s1]
 cases hq:(!(f.cps[i].at_.toList==(Go.Ev.bs #[]).toList)) with
 |true=>
  refine ⟨{f.cps[i] with rank:=x},p+1,?_,hc,by omega,by omega⟩
  simp only[jR,jJ,apL,jC,jD,aL.d1,C.I_i,C.L_l,w1 hi hlc]
 |false=>
  simp only[jS,g3,jI,jC,jD,C.I_i]
  cases hz0:((z:Int)==0) with
  |true=>
   refine ⟨{c2 with near:=Go.Ev.bs #[]},p+1+1,?_,?_,by omega,by omega⟩
   ·simp only[jR,s2,s3,jW,List.length_set,ltL hi,decide_true,jJ,apL,jC,jD,aL.d1,C.I_i,C.L_l,w1 hi hlc]
   ·rw[hc2,hc1]
    exact ⟨hc.1,hc.2.1,e0,e0,hc.2.2.2.2.1,hc.2.2.2.2.2⟩
  |false=>
   refine ⟨c1,p+1+1,?_,by rw[hc1];exact hc,by omega,by omega⟩
   simp only[jS,jJ,apL,jC,jD,aL.d1,C.I_i,C.L_l,w1 hi hlc]
theorem J1:∀(d i:Nat) (f:Fl) (p:Int),Ti f→i+d=f.cps.length→0≤p→p≤1125899906842624-10000+(0-10)*d→
  ∃(f':Fl) (p':Int),lim (apn 11 aL.d2) (stT i bs p f)=some (.brk 0 ([.l bs,.i p',.b false,.b f'.pack]++nl3++cU f'))∧Ti f'∧p≤p'∧p'≤p+10*d:=by
 intro d
 induction d with
 |zero=>
  intro i f p T hd h0 h1
  refine ⟨f,p,aU ?_,T,by omega,by omega⟩
  have:¬((i:Int)<(f.cps.length:Int)):=by omega
  simp only[stT,nl3,cU,jA,jB,apL,jC,jD,aL.d2,C.I_i,C.L_l,jW,this,decide_false,jS]
 |succ d ih=>
  intro i f p T hd h0 h1
  obtain ⟨c,p1,e1,e2,e3,e4⟩:=J4 hb hl T (i:=i) (by omega) h0 (by omega)
  obtain ⟨f',p',q1,q2,q3,q4⟩:=ih (i+1) _ p1 (T.set i e2) (by show i+1+d=(f.cps.set i c).length;rw[List.length_set];omega) (by omega) (by omega)
  exact ⟨f',p',by rw[aI e1,q1],q2,by omega,by omega⟩
theorem Kd {f:Fl} (T:Ti f) {i:Nat} (hi:i<3) {p:Int} (h0:0≤p) (h1:p≤1125899906842624-30000):
  ∃(x:Fl) (p':Int),apn 11 aL.d4 (stT i bs p f)=some (.again (stT (i+1:Nat) bs p' x))∧Ti x∧p≤p'∧p'≤p+1100:=by
 have w0:w64 (40+(i:Int))=((40+i:Nat):Int):=by rw[aQ (by omega) (by omega)];omega
 obtain ⟨c,p1,g1,a1,a2,a3⟩:=Ci hb hl (n:=40+i) (by omega) (p:=p) h0 (by omega)
 obtain ⟨x,hx,g2⟩:=bc hb hl (p:=p1) (n:=30) (by omega) (by omega) (by omega) (by omega)
 obtain ⟨y,hy,g3⟩:=bc hb hl (p:=p1+1) (n:=8) (by omega) (by omega) (by omega) (by omega)
 obtain ⟨z,hz,g4⟩:=bc hb hl (p:=p1+1+1) (n:=3) (by omega) (by omega) (by omega) (by omega)
 have e0:(Go.Ev.bs #[]).size≤1000:=by decide
 have hi3:((i:Int)<3):=by omega
 have w3:w64 ((i:Int)+1)=((i+1:Nat):Int):=by rw[aQ (by omega) (by omega)];omega
 have key:∀(c':Cp),c'.Sz 1000→∃(x:Fl),apn 23 aL.d3 ([.i i,.l bs,.i (p1+1+1+1),.b false,.b f.pack]++c'.fl++nl3++cU f++[.l c'.lk])=some (.again (stT (i+1:Nat) bs (p1+1+1+1) x))∧Ti x:=fun c' hc'=>by
  obtain ⟨x,code,e1,e2⟩:=T.oF hc'
  simp only[evL,evR,cU,oF,Z0,Cp.fl,Cp.lk,jA,jB] at e1
  have stp:apn 23 aL.d3 ([.i i,.l bs,.i (p1+1+1+1),.b false,.b f.pack]++c'.fl++nl3++cU f++[.l c'.lk])=bif code==0 then some (.again (stT (i+1:Nat) bs (p1+1+1+1) x)) else some (.again (stT (i+1:Nat) bs (p1+1+1+1) f)):=by
   simp only[stT,nl3,cU,Cp.fl,Cp.lk,jA,jB,apL,jC,jD,aL.d3,C.L_l,af,e1,call10,jI,C.I_i,w3]
  cases hq:(code==0) with
  |true=>exact ⟨x,by rw[stp,hq];rfl,e2 (by simpa using hq)⟩
  |false=>exact ⟨f,by rw[stp,hq];rfl,T⟩
 obtain ⟨c1,hc1⟩:∃c1:Cp,c1= {c with rank:=w64 (3+(x:Int)),room:=w64 (2+(y:Int))}:=⟨_,rfl⟩
 obtain ⟨x1,k1,k2⟩:=key {c1 with sel:=Go.Ev.bs #[],near:=Go.Ev.bs #[]} (by rw[hc1];exact ⟨a1.1,a1.2.1,e0,e0,a1.2.2.2.2.1,a1.2.2.2.2.2⟩)
 obtain ⟨x2,k3,k4⟩:=key c1 (by rw[hc1];exact a1)
 have stp:apn 11 aL.d4 (stT i bs p f)=bif decide ((z:Int)>0) then some (.again (stT (i+1:Nat) bs (p1+1+1+1) x1)) else some (.again (stT (i+1:Nat) bs (p1+1+1+1) x2)):=by
  rw[←k1,←k3,hc1]
  simp only[Cp.q] at g1
  simp only[stT,nl3,cU,jA,jB,apL,jC,jD,aL.d4,C.I_i,hi3,decide_true,jR,w0,g1,call14,jI,g2,call3,g3,g4,C.L_l]
  cases decide ((z:Int)>0)<;>rfl
 cases hq:decide ((z:Int)>0) with
 |true=>exact ⟨x1,_,by rw[stp,hq];rfl,k2,by omega,by omega⟩
 |false=>exact ⟨x2,_,by rw[stp,hq];rfl,k4,by omega,by omega⟩
theorem Kc:∀(d i:Nat) (f:Fl) (p:Int),Ti f→i+d=3→0≤p→p≤1125899906842624-40000+(0-1100)*d→
  ∃(f':Fl) (p':Int),lim (apn 11 aL.d4) (stT i bs p f)=some (.brk 2 ([.l bs,.i p',.b false,.b f'.pack]++nl3++cU f'))∧Ti f'∧p≤p'∧p'≤p+1100*d:=by
 intro d
 induction d with
 |zero=>
  intro i f p T hd h0 h1
  refine ⟨f,p,aU ?_,T,by omega,by omega⟩
  have:¬((i:Int)<3):=by omega
  simp only[stT,nl3,cU,jA,jB,apL,jC,jD,aL.d4,C.I_i,C.L_l,this,decide_false,jS]
 |succ d ih=>
  intro i f p T hd h0 h1
  obtain ⟨x,p1,e1,e2,e3,e4⟩:=Kd hb hl T (i:=i) (by omega) h0 (by omega)
  obtain ⟨f',p',q1,q2,q3,q4⟩:=ih (i+1) x p1 e2 (by omega) (by omega) (by omega)
  exact ⟨f',p',by rw[aI e1,q1],q2,by omega,by omega⟩
theorem JR:∀(d i:Nat) (f:Fl) (p:Int),Ti f→i+d=f.svs.length→0≤p→p≤1125899906842624-10000+(0-10)*d→
  ∃(f':Fl) (p':Int),lim (apn 11 aL.d6) (stT i bs p f)=some (.brk 4 ([.l bs,.i p',.b false,.b f'.pack]++nl3++cU f'))∧Ti f'∧p≤p'∧p'≤p+10*d:=by
 intro d
 induction d with
 |zero=>
  intro i f p T hd h0 h1
  refine ⟨f,p,aU ?_,T,by omega,by omega⟩
  have:¬((i:Int)<(f.svs.length:Int)):=by omega
  simp only[stT,nl3,cU,jA,jB,apL,jC,jD,aL.d6,C.I_i,C.L_l,jW,this,decide_false,jS]
 |succ d ih=>
  intro i f p T hd h0 h1
  have hi:i<f.svs.length:=by omega
  have hlc:f.svs.length<big:=by have:=T.ns;simp only[big];omega
  obtain ⟨x,hx,g1⟩:=bc hb hl h0 (show p≤1125899906842624 by omega) (n:=6) (by omega) (by omega)
  have r1:((f.svs.map Sv.e).getD i []).getD 1 .nil=.i f.svs[i].spare:=by rw[getD_map' Sv.e hi];rfl
  have s1:(f.svs.map Sv.e).set i (aE ((f.svs.map Sv.e).getD i []) 1 [.i (w64 (f.svs[i].spare+(x:Int)))])=(f.svs.set i {f.svs[i] with spare:=w64 (f.svs[i].spare+(x:Int))}).map Sv.e:=oW hi rfl
  obtain ⟨s',hs'⟩:∃s':Sv,s'= {f.svs[i] with spare:=w64 (f.svs[i].spare+(x:Int))}:=⟨_,rfl⟩
  rw[←hs'] at s1
  have hsz:s'.Sz 1000:=by have h:=T.z.2.1.2 _ (List.getElem_mem hi);rw[hs'];exact h
  have T':Ti {f with svs:=f.svs.set i s'}:=⟨⟨T.z.1,⟨by show (f.svs.set i s').length≤1000;rw[List.length_set];have:=T.ns;omega,fun y hy=>(List.mem_or_eq_of_mem_set hy).elim (T.z.2.1.2 y) fun e=>e▸hsz⟩,T.z.2.2⟩,T.n,T.nb,by show (f.svs.set i s').length≤30;rw[List.length_set];exact T.ns,by
   rcases T.al with ⟨a,b⟩|a
   ·exact .inl ⟨a,by show (f.svs.set i s').length=4;rw[List.length_set];exact b⟩
   ·exact .inr a⟩
  obtain ⟨f',p',q1,q2,q3,q4⟩:=ih (i+1) _ (p+1) T' (by show i+1+d=(f.svs.set i s').length;rw[List.length_set];omega) (by omega) (by omega)
  refine ⟨f',p',?_,q2,by omega,by omega⟩
  rw[←q1]
  apply aI
  simp only[stT,nl3,cU,jA,jB,apL,jC,jD,aL.d6,C.I_i,C.L_l,jW,ltL hi,decide_true,jR,jX,jY,r1,g1,call3,jI,s1,w1 hi hlc]
theorem F7 {p:Int} (h0:0≤p) (h1:p≤1125899906842624-100000):
  ∃(f:Fl) (p':Int),aL [.l bs,.i p]=some ([C.b f.pack,.l bs,.i p']++cU f)∧Ti f∧p≤p'∧p'≤p+40000:=by
 obtain ⟨bts,svs,pk,f0,p0,g0,D,hbt,hsv,a1,a2⟩:=GD hb hl h0 (by omega)
 have T0:Ti f0:=⟨D.szD ⟨hbt.1.2,hbt.2⟩ ⟨by omega,hsv.2⟩,D.n,by rw[D.b];exact hbt.1.2,by rw[D.s];omega,.inl ⟨by rw[D.b];exact hbt.1.1,by rw[D.s];exact hsv.1⟩⟩
 have hn0:=T0.n
 obtain ⟨f1,p1,b1,T1,b2,b3⟩:=J1 hb hl f0.cps.length 0 f0 p0 T0 (by omega) (by omega) (by omega)
 obtain ⟨x,hx,g1⟩:=bc hb hl (p:=p1) (n:=3) (by omega) (by omega) (by omega) (by omega)
 have hp:=He T1.z.up
 obtain ⟨f2,p2,c1,T2,c2,c3⟩:=Kc hb hl 3 0 _ (p1+1) (E6 T1) (by omega) (by omega) (by omega)
 have fin:∀(g:Fl) (q:Int),Ti g→p≤q→q≤p+39000→∃(f:Fl) (p':Int),aY (apn 10 aL.d8 ([C.l bs,.i q,.b false,.b g.pack]++nl3++cU g))=some ([C.b f.pack,.l bs,.i p']++cU f)∧Ti f∧p≤p'∧p'≤p+40000:=fun g q T q1 q2=>by
  have:=T.ns
  obtain ⟨f',p',d1,T',d2,d3⟩:=JR hb hl g.svs.length 0 g q T (by omega) (by omega) (by omega)
  refine ⟨f',p',?_,T',by omega,by omega⟩
  simp only[stT,nl3,cU,jA,jB,Int.natCast_zero] at d1⊢
  simp only[apL,jC,jD,aL.d8,C.L_l,d1,au,aL.d7,jV]
 simp only[stT,nl3,cU,G7,Fl.e,jA,jB,Int.natCast_zero] at g0 b1 c1 hp
 simp only[aL,aL.d10,apL,jC,jD,g0,call6,jI,C.L_l,af,b1,au,aL.d9,g1,call3,C.I_i]
 cases hq:decide ((x:Int)>0) with
 |true=>
  simp only[jR,hp,call5,jI,jC,jD,C.L_l,c1,au,apL,aL.d5,jJ]
  exact fin f2 p2 T2 (by omega) (by omega)
 |false=>
  simp only[jS,jJ]
  exact fin f1 (p1+1) T1 (by omega) (by omega)
end
end Go.Ev
namespace Go.Ev
theorem FT {f:Fl} (hz:f.Sz 1048576):(nxA (mC f)).size≤1048576∧(nxB (mC f)).size≤1048576∧tJ 1048576 (nxG (mC f)):=by
 have e0:(mkS []).size≤1048576:=by decide
 cases hx:mC f with
 |none=>exact ⟨e0,e0,by simp[nxG],fun s h=>by simp[nxG] at h⟩
 |some x=>
  refine ⟨?_,?_,(Bj hz hx).sz hz⟩<;>
  ·unfold mC at hx
   cases hv:bO f with
   |false=>rw[hv] at hx;cases hx
   |true=>
    rw[hv,jR] at hx
    unfold xl at hx
    cases h1:(queue f).findSome? (sN f) with
    |some y=>
     rw[h1] at hx
     obtain rfl:=Option.some.inj hx
     obtain ⟨c,hm,hc⟩:=List.exists_of_findSome?_eq_some h1
     have hcz:=hz.2.2.2 c (nx hm).1
     unfold sN at hc
     cases hq:sEq (gl f c) (mkS []) with
     |true=>rw[hq] at hc;cases hc
     |false=>
      rw[hq] at hc
      obtain rfl:=Option.some.inj hc
      obtain ⟨b,b1,b2,_⟩:=wN hq
      first
      |exact hcz.1
      |(show (gl f c).size≤_;rw[b2];exact (hz.1.2 b b1).1)
    |none=>
     rw[h1] at hx
     obtain ⟨c,hm,hc⟩:=List.exists_of_findSome?_eq_some hx
     have hcz:=hz.2.2.2 c (nx hm).1
     unfold E7 at hc
     cases hf:force f c f.bts.length with
     |none=>rw[hf] at hc;cases hc
     |some p=>
      obtain ⟨b,l⟩:=p
      rw[hf] at hc
      obtain rfl:=Option.some.inj hc
      first
      |exact hcz.1
      |exact (hz.1.2 b (ny f c _ b l hf).1).1
theorem GU {f:Fl} (hz:f.Sz 1048576) {s:Str} (h:s=Go.Ev.bs #[]∨s=Go.Ev.bs #[103,111,110,101]∨∃k,∃hk:k<f.cps.length,s=f.cps[k].name):s.size≤1048576:=by
 rcases h with rfl|rfl|⟨k,hk,rfl⟩
 ·decide
 ·decide
 ·exact (hz.2.2.2 _ (List.getElem_mem hk)).1
theorem I2 {f:Fl} (hz:f.Sz 1048576) {s:Str} (h:s=Go.Ev.bs #[]∨s=Go.Ev.bs #[103,111,110,101]∨∃k,∃hk:k<f.bts.length,s=f.bts[k].name):s.size≤1048576:=by
 rcases h with rfl|rfl|⟨k,hk,rfl⟩
 ·decide
 ·decide
 ·exact (hz.1.2 _ (List.getElem_mem hk)).1
section
variable {bs:List (List C)} (hb:BY bs) (hl:bs.length≤2000)
include hb hl
theorem HB {f:Fl} (hz:f.Sz 1000) (hb1:f.bts=[]) {p:Int} (h0:0≤p) (h1:p≤1125899906842624-10000):
  ∃(g:Fl) (p':Int),bF (f.e++[.l bs,.i p])=some (spR bs g p')∧g.Sq∧p≤p'∧p'≤p+1000:=by
 have hF:=lI hz.up
 have hcl:=hz.2.2.1
 have hbl:f.bts.length=0:=by rw[hb1];rfl
 have g1:=JO (bs:=bs) (p:=p) (n:=(f.bts.length:Int)) (by omega) (by omega) (by omega)
 have nb:((f.bts.length:Int)==0)=true:=by rw[hbl];rfl
 have hg2:∃n:Int,ae [.i (f.cps.length:Int),.l bs,.i (p+1)]=some [.i n,.l bs,.i (p+1+1)]:=by
  by_cases hc0:f.cps.length=0
  ·exact ⟨_,JO (bs:=bs) (p:=p+1) (n:=(f.cps.length:Int)) (by omega) (by omega) (by omega)⟩
  ·obtain ⟨n,hn,g2⟩:=bc hb hl (p:=p+1) (n:=(f.cps.length:Int)) (by omega) (by omega) (by omega) (by omega)
   exact ⟨n,g2⟩
 obtain ⟨n,g2⟩:=hg2
 refine ⟨⟨false,[],[⟨Go.Ev.bs #[],0⟩],[]⟩,p+1+1,?_,⟨⟨⟨by show 0≤_;decide,fun b hb=>by simp at hb⟩,⟨by show 1≤_;decide,fun s hs=>by rw[List.mem_singleton.1 hs];show (Go.Ev.bs #[]).size≤_;decide⟩,by show 0≤_;decide,fun b hb=>by simp at hb⟩,by show 0≤_;decide⟩,by omega,by omega⟩
 simp only[Fl.e] at hF
 simp only[bF,bF.d5,Fl.e,jA,jB,apL,jC,jD,hF,call4,jI,C.L_l,jW,g1,g2,call3,nb,jZ,jS,jV]
 rfl
theorem Hm {p:Int} (h0:0≤p) (h1:p≤1125899906842624-200000):
  ∃(f:Fl) (p':Int),ot [.l bs,.i p]=some [.b f.pack,.l (f.cps.map Cp.e),.l bs,.i p',.l (f.bts.map Bt.e),.l (f.svs.map Sv.e)]∧f.Sq∧p≤p'∧p'≤p+50000:=by
 obtain ⟨k,hk,g1⟩:=bc hb hl h0 (show p≤1125899906842624 by omega) (n:=12) (by omega) (by omega)
 simp only[ot,ot.d1,apL,jC,jD,g1,call3,jI,C.I_i]
 cases hq:((k:Int)==0) with
 |true=>
  obtain ⟨f,p',q1,q2,q3,q4⟩:=Ie hb hl (p:=p+1) (by omega) (by omega)
  refine ⟨f,p',?_,⟨q2.up,q2.2.2.1⟩,by omega,by omega⟩
  simp only[jR,q1,call6,jI,jC,jD,C.L_l,jV]
 |false=>
  obtain ⟨f,p1,q1,q2,q4,q5⟩:=F7 hb hl (p:=p+1) (by omega) (by omega)
  obtain ⟨m,hm,g2⟩:=bc hb hl (p:=p1) (n:=16) (by omega) (by omega) (by omega) (by omega)
  simp only[cU,jA,jB] at q1
  simp only[jS,q1,call6,jI,jC,jD,C.L_l,g2,call3,C.I_i]
  cases hm0:((m:Int)==0) with
  |true=>
   have sp:∃(g:Fl) (p':Int),bF (f.e++[.l bs,.i (p1+1)])=some (spR bs g p')∧g.Sq∧p1+1≤p'∧p'≤p1+1+1000:=by
    rcases q2.al with ⟨a,b⟩|a
    ·exact Gr hb hl q2.z b a (by omega) (by omega)
    ·exact HB hb hl q2.z a (by omega) (by omega)
   obtain ⟨g,p2,r1,r2,r3,r4⟩:=sp
   simp only[Fl.e,jA,jB] at r1
   refine ⟨g,p2,?_,r2,by omega,by omega⟩
   simp only[jR,r1,spR,call6,jI,jC,jD,C.L_l,jV]
  |false=>
   refine ⟨f,p1+1,?_,⟨q2.z.up,q2.z.2.2.1⟩,by omega,by omega⟩
   simp only[jS,jV]
theorem Jo {f:Fl} (hz:f.Sz 1048576):∀(d i:Nat) (L:List Str) (p:Int),i+d=f.cps.length→L.length≤i→(∀s,s∈L→s.size≤1048576)→0≤p→p≤1125899906842624-10000+(0-10)*d→
  ∃(L':List Str) (p':Int),lim (apn 8 fb.d1) ([.i i,.l bs,.i p]++f.e++[.l (L.map sE)])=some (.brk 0 ([.l bs,.i p']++f.e++[.l (L'.map sE)]))∧L'.length≤f.cps.length∧(∀s,s∈L'→s.size≤1048576)∧p≤p'∧p'≤p+10*d:=by
 intro d
 induction d with
 |zero=>
  intro i L p hd hL hs h0 h1
  refine ⟨L,p,aU ?_,by omega,hs,by omega,by omega⟩
  have:¬((i:Int)<(f.cps.length:Int)):=by omega
  simp only[Fl.e,jA,jB,apL,jC,jD,fb.d1,C.I_i,C.L_l,jW,this,decide_false,jS]
 |succ d ih=>
  intro i L p hd hL hs h0 h1
  have hi:i<f.cps.length:=by omega
  have hlc:f.cps.length<big:=by have:=hz.2.2.1;simp only[big];omega
  have r11:((f.cps.map Cp.e).getD i []).getD 11 .nil=.s f.cps[i].at_:=by rw[getD_map' Cp.e hi];rfl
  have r0:((f.cps.map Cp.e).getD i []).getD 0 .nil=.s f.cps[i].name:=by rw[getD_map' Cp.e hi];rfl
  obtain ⟨x,hx,g1⟩:=bc hb hl h0 (show p≤1125899906842624 by omega) (n:=3) (by omega) (by omega)
  have hc2:L.length+1≤4294967296:=by have:=hz.2.2.1;omega
  have stp:apn 8 fb.d1 ([.i i,.l bs,.i p]++f.e++[.l (L.map sE)])=bif !(f.cps[i].at_.toList==(Go.Ev.bs #[]).toList) then (bif ((x:Int)==0) then some (.again ([.i (i+1:Nat),.l bs,.i (p+1)]++f.e++[.l ((L++[f.cps[i].name]).map sE)])) else some (.again ([.i (i+1:Nat),.l bs,.i (p+1)]++f.e++[.l (L.map sE)]))) else some (.again ([.i (i+1:Nat),.l bs,.i p]++f.e++[.l (L.map sE)])):=by
   simp only[Fl.e,jA,jB,apL,jC,jD,fb.d1,C.I_i,C.L_l,jW,ltL hi,decide_true,jR,jX,jY,r11,r0,C.S_s,g1,call3,jI,rows,List.length_cons,List.length_nil,Nat.zero_add,hc2,w1 hi hlc,List.map_append,List.map_cons,List.map_nil,sE]
  cases hq:(!(f.cps[i].at_.toList==(Go.Ev.bs #[]).toList)) with
  |false=>
   obtain ⟨L',p',q1,q2,q3,q4,q5⟩:=ih (i+1) L p (by omega) (by omega) hs h0 (by omega)
   exact ⟨L',p',by rw[aI (by rw[stp,hq];rfl),q1],q2,q3,by omega,by omega⟩
  |true=>
   cases hx0:((x:Int)==0) with
   |true=>
    obtain ⟨L',p',q1,q2,q3,q4,q5⟩:=ih (i+1) (L++[f.cps[i].name]) (p+1) (by omega) (by simp;omega) (fun s h=>by
     rcases List.mem_append.1 h with h|h
     ·exact hs s h
     ·rw[List.mem_singleton.1 h];exact (hz.2.2.2 _ (List.getElem_mem hi)).1) (by omega) (by omega)
    exact ⟨L',p',by rw[aI (by rw[stp,hq,hx0];rfl),q1],q2,q3,by omega,by omega⟩
   |false=>
    obtain ⟨L',p',q1,q2,q3,q4,q5⟩:=ih (i+1) L (p+1) (by omega) (by omega) hs (by omega) (by omega)
    exact ⟨L',p',by rw[aI (by rw[stp,hq,hx0];rfl),q1],q2,q3,by omega,by omega⟩
theorem HI {f:Fl} (hq:f.Sq) {p:Int} (h0:0≤p) (h1:p≤1125899906842624-30000):
  ∃(g:List Str) (p':Int),fb (f.e++[.l bs,.i p])=some [.l bs,.i p',.l (g.map sE)]∧tJ 1048576 g∧p≤p'∧p'≤p+20000:=by
 have hz:=hq.1
 have h1000:=hq.2
 obtain ⟨L,p1,q1,q2,q3,q4,q5⟩:=Jo hb hl hz f.cps.length 0 [] p (by omega) (by simp) (fun s h=>by simp at h) h0 (by omega)
 obtain ⟨x,hx,g1⟩:=bc hb hl (p:=p1) (n:=12) (by omega) (by omega) (by omega) (by omega)
 obtain ⟨s,p2,g2,s1,s2,s3⟩:=EI hb hl f (by omega) (p:=p1+1) (by omega) (by omega)
 have hc2:L.length+1≤4294967296:=by omega
 simp only[Fl.e,jA,jB,Int.natCast_zero,List.map_nil] at q1 g2
 simp only[fb,fb.d3,Fl.e,jA,jB,apL,jC,jD,af,q1,au,fb.d2,g1,call3,jI,C.I_i,C.L_l,jW,g2,rows,List.length_cons,List.length_nil,Nat.zero_add,hc2,decide_true,jR]
 cases hx0:((x:Int)==0) with
 |true=>
  refine ⟨L++[s],p2,?_,⟨by simp;omega,fun y h=>?_⟩,by omega,by omega⟩
  ·simp only[jR,jV,List.map_append,List.map_cons,List.map_nil,sE]
  ·rcases List.mem_append.1 h with h|h
   ·exact q3 y h
   ·rw[List.mem_singleton.1 h];exact GU hz s1
 |false=>
  have same:∃(g:List Str) (p':Int),some [C.l bs,.i (p1+1),.l (L.map sE)]=some [C.l bs,.i p',.l (g.map sE)]∧tJ 1048576 g∧p≤p'∧p'≤p+20000:=⟨L,p1+1,rfl,⟨by omega,q3⟩,by omega,by omega⟩
  cases hx1:((x:Int)==1) with
  |false=>simp only[jS,jV];exact same
  |true=>
   simp only[jR,jS]
   by_cases hL:L.length≤1
   ·have:¬((L.length:Int)>1):=by omega
    simp only[this,decide_false,jS,jV];exact same
   ·match L,hL with
    |a::b::r,_=>
     have t1:(((a::b::r).length:Nat):Int)>1:=by simp only[List.length_cons];omega
     have t2:(0:Int)<(((a::b::r).length:Nat):Int):=by omega
     have t3:(1:Int)<(((a::b::r).length:Nat):Int):=by omega
     refine ⟨b::a::r,p1+1,?_,⟨by simp only[List.length_cons] at q2⊢;omega,fun y h=>q3 y (by simp only[List.mem_cons] at h⊢;rcases h with h|h|h<;>simp[h])⟩,by omega,by omega⟩
     have t4:(1:Int)<(((List.set (sE a::sE b::r.map sE) 0 (aE ((sE a::sE b::r.map sE).getD 0 []) 0 [((sE a::sE b::r.map sE).getD 1 []).getD 0 .nil])).length:Nat):Int):=by rw[List.length_set];simp only[List.length_cons];omega
     simp only[t1,t2,t3,decide_true,jR,List.map_cons,t4,jV]
     rfl
    |[_],h=>simp at h
    |[],h=>simp at h
end
theorem Fw {A:List (List C)} (hA:BY A):∃(f:Fl) (s:Sp),dF [.l A]=some (f.e++s.e)∧f.Sz 1048576∧s.Sz 1048576:=by
 obtain ⟨bs,g0,hb,hl⟩:=HX hA
 obtain ⟨f,p1,g1,hq,a1,a2⟩:=Hm hb hl (p:=0) (by omega) (by omega)
 have hz:=hq.1
 have v:=gP hz
 have hN:ie f.e=some (wA (mC f)):=by
  simp only[Fl.e] at v
  simp only[ie,ie.d1,Fl.e,apL,jC,jD,v,ad,jI,C.B_b,mC]
  cases hv:bO f with
  |false=>simp[wA,show Ev.bs #[]=mkS [] from rfl]
  |true=>
   have h7:=Cd hz hv
   simp only[Fl.e] at h7
   simp only[jZ,jS,jR,h7,call4,jI]
   rw[wm]
   simp
 have hn1:=FT hz
 obtain ⟨x,hx,g3⟩:=bc hb hl (p:=p1) (n:=4) (by omega) (by omega) (by omega) (by omega)
 rw[wm] at hN
 simp only[Fl.e] at hN
 have other:∀q,0≤q→q≤100000→∀(c1 c2 c3 c4 c5 c6 c7 c8:C),∃(f':Fl) (s:Sp),aY (apn 17 dF.d1 ([C.b true,.b false,c1,c2,.l bs,.i q,.b f.pack,.l (f.bts.map Bt.e),.l (f.svs.map Sv.e),.l (f.cps.map Cp.e),c3,c4,c5,c6,c7,c8]++[.l ((nxG (mC f)).map sE)]))=some (f'.e++s.e)∧f'.Sz 1048576∧s.Sz 1048576:=fun q q0 q1 c1 c2 c3 c4 c5 c6 c7 c8=>by
  obtain ⟨cn,p2,h1,h2,h3,h4⟩:=EI hb hl f hz.2.2.1 q0 (by omega)
  obtain ⟨bn,p3,h5,h6,h7,h8⟩:=GB hb hl f hz.1.1 (p:=p2) (by omega) (by omega)
  obtain ⟨y,hy,h9⟩:=bc hb hl (p:=p3) (n:=2) (by omega) (by omega) (by omega) (by omega)
  obtain ⟨g,p4,h10,h11,h12,h13⟩:=HI hb hl hq (p:=p3+1) (by omega) (by omega)
  simp only[Fl.e,jA,jB] at h1 h5 h10
  simp only[jA,jB,apL,jC,jD,dF.d1,C.B_b,jR,h1,h5,call3,jI,h9,C.I_i]
  cases hy0:((y:Int)==0) with
  |true=>
   refine ⟨f,⟨cn,bn,g⟩,?_,hz,GU hz h2,I2 hz h6,h11⟩
   simp only[jR,h10,jI,jC,jD,C.L_l,jV]
   rfl
  |false=>
   refine ⟨f,⟨cn,bn,[]⟩,?_,hz,GU hz h2,I2 hz h6,by simp,fun s h=>by simp at h⟩
   simp only[jS,jV]
   rfl
 simp only[dF,dF.d2,apL,jC,jD,g0,call2,jI,g1,call6,C.L_l,hN,call4,C.B_b]
 cases hs:(mC f).isSome with
 |false=>
  simp only[ja,jZ,jS,jJ]
  exact other p1 (by omega) (by omega) _ _ _ _ _ _ _ _
 |true=>
  simp only[ja,jZ,jR,g3,call3,jI,jC,jD,C.I_i,jJ]
  cases hx0:((x:Int)==0) with
  |true=>exact other (p1+1) (by omega) (by omega) _ _ _ _ _ _ _ _
  |false=>
   refine ⟨f,⟨nxA (mC f),nxB (mC f),nxG (mC f)⟩,?_,hz,hn1⟩
   simp only[apL,jC,jD,dF.d1,C.B_b,jS,C.L_l,jV]
   rfl
end Go.Ev
namespace Go.Ev
def inG (g:List Str) (s:Str):Bool:=g.any fun x=>sEq x s
def goP (nm:Str) (g:List Str) (c:Cp):Bool:=sEq c.svc nm&&inG g c.name
def dnP (nm:Str) (g:List Str) (c:Cp):Bool:=sEq c.svc nm&&(sEq c.at_ (mkS [])||inG g c.name)
def wtP (nm:Str) (c:Cp):Bool:=sEq c.svc nm&&sEq c.at_ (mkS [])
theorem I1 (b:Bool):(if b=true then 1 else 0:Nat)=bif b then 1 else 0:=by cases b<;>rfl
theorem Ei {α:Type} (r:α→Bool):∀(l:List α) (k:Nat),(∀i (hi:i<l.length),i≠k→r l[i]=false)→l.countP r≤(bif (match l[k]? with|some c=>r c|none=>false) then 1 else 0)
 |[],k,h=>by simp
 |x::t,0,h=>by
  have ht:t.countP r=0:=by
   rw[List.countP_eq_zero]
   intro y hy
   obtain ⟨i,hi,rfl⟩:=List.mem_iff_getElem.1 hy
   have:=h (i+1) (by simp;omega) (by omega)
   simpa using this
  rw[List.countP_cons,ht]
  cases hx:r x<;>simp[hx]
 |x::t,k+1,h=>by
  have hx:r x=false:=h 0 (by simp) (by omega)
  have:=Ei r t k (fun i hi hk=>by have:=h (i+1) (by simp;omega) (by omega);simpa using this)
  rw[List.countP_cons,hx]
  simpa using this
theorem Dt {α:Type} (p q r:α→Bool) (h:∀x,r x=true→p x=true∨q x=true):∀l:List α,l.countP r≤l.countP p+l.countP q
 |[]=>by simp
 |x::t=>by
  have ih:=Dt p q r h t
  have:=h x
  rw[List.countP_cons,List.countP_cons,List.countP_cons]
  cases hr:r x<;>cases hp:p x<;>cases hq:q x<;>simp_all<;>omega
theorem Ee (l:List Cp) (nm:Str):∀i,i≤l.length→ir l nm i=(l.take i).countP (wtP nm)
 |0,_=>by simp[ir]
 |i+1,h=>by
  have hi:i<l.length:=by omega
  rw[ir,List.getElem?_eq_getElem hi,Ee l nm i (by omega),List.take_add_one,List.getElem?_eq_getElem hi,List.countP_append]
  simp only[Option.toList_some,List.countP_cons,List.countP_nil,wtP]
  by_cases hq:(sEq l[i].svc nm&&sEq l[i].at_ (mkS []))=true<;>simp[hq]
theorem ER {f:Fl} {g:List Str} (hz:f.Sz 1048576) (hgz:tJ 1048576 g) (hu:wT f.cps) (hg:aA (iC f g) 0 g.length=true) (nm:Str):∀j,j≤g.length→f.cps.countP (goP nm (g.take j))≤iH f g nm j
 |0,_=>by
  rw[List.countP_eq_zero.2 (fun c _=>by simp[goP,inG])]
  exact Nat.zero_le _
 |j+1,h=>by
  have hj:j<g.length:=by omega
  have ih:=ER hz hgz hu hg nm j (by omega)
  have h1:=Dt (goP nm (g.take j)) (fun c=>sEq c.svc nm&&sEq g[j] c.name) (goP nm (g.take (j+1))) (fun c hc=>by
   simp only[goP,inG,Bool.and_eq_true] at hc⊢
   rw[List.take_add_one,List.getElem?_eq_getElem hj,List.any_append] at hc
   simp only[Option.toList_some,List.any_cons,List.any_nil,Bool.or_false,Bool.or_eq_true] at hc
   exact hc.2.elim (fun q=>.inl ⟨hc.1,q⟩) fun q=>.inr ⟨hc.1,q⟩) f.cps
  obtain ⟨k,hk,e1,e2⟩:=D6 hz hgz hg hj
  rw[dX hj] at e1
  have hname:sEq f.cps[k].name g[j]=true:=by
   rcases uw f g[j] with q|⟨k',hk',q1,q2⟩
   ·omega
   ·have:k=k':=by omega
    subst this
    exact q2
  have h2:=Ei (fun c=>sEq c.svc nm&&sEq g[j] c.name) f.cps k (fun i hi hne=>by
   cases hq:sEq g[j] f.cps[i].name with
   |false=>simp
   |true=>
    have:sEq f.cps[k].name f.cps[i].name=true:=by rw[(cF _ _).1 hname,(cF _ _).1 hq];exact (cF _ _).2 rfl
    exact absurd (hu _ _ hk hi this) (by omega))
  rw[List.getElem?_eq_getElem hk] at h2
  replace h2:f.cps.countP (fun c=>sEq c.svc nm&&sEq g[j] c.name)≤bif (sEq f.cps[k].svc nm&&sEq g[j] f.cps[k].name) then 1 else 0:=h2
  simp only[iH,e2]
  have h3:sEq g[j] f.cps[k].name=true:=by rw[jz];exact hname
  rw[h3,Bool.and_true] at h2
  cases hs:sEq f.cps[k].svc nm with
  |true=>rw[hs] at h2;simp only[jR] at h2⊢;omega
  |false=>rw[hs] at h2;simp only[jS] at h2⊢;omega
theorem Hb {f:Fl} {g:List Str} (hz:f.Sz 1048576) (hgz:tJ 1048576 g) (hv:bO f=true) (hm:lq f g=true) {i:Nat} (hi:i<f.svs.length) (hgo:f.cps.any (goP f.svs[i].name g)=true):
  (f.cps.countP (dnP f.svs[i].name g):Int)≤f.svs[i].spare:=by
 simp only[lq,Bool.and_eq_true] at hm
 have h1:=ER hz hgz (lv hv) hm.1 f.svs[i].name g.length (Nat.le_refl _)
 rw[List.take_length] at h1
 have h2:=Ee f.cps f.svs[i].name f.cps.length (Nat.le_refl _)
 rw[List.take_length] at h2
 have h3:=Dt (wtP f.svs[i].name) (goP f.svs[i].name g) (dnP f.svs[i].name g) (fun c hc=>by
  simp only[dnP,wtP,goP,Bool.and_eq_true,Bool.or_eq_true] at hc⊢
  exact hc.2.elim (fun q=>.inl ⟨hc.1,q⟩) fun q=>.inr ⟨hc.1,q⟩) f.cps
 have h4:0<f.cps.countP (goP f.svs[i].name g):=by
  obtain ⟨c,hc,hq⟩:=List.any_eq_true.1 hgo
  exact List.countP_pos_iff.2 ⟨c,hc,hq⟩
 have h5:=(bX _ _ _).1 hm.2 i (Nat.zero_le _) (by omega)
 simp only[tf,List.getElem?_eq_getElem hi,Bool.or_eq_true,beq_iff_eq,decide_eq_true_eq] at h5
 omega
theorem Gj {f:Fl} {s:Sp} (h:(doR f s).2=true):bO f=true∧lq f s.gone=true∧bO (doR f s).1=true:=by
 unfold doR at h⊢
 split at h
 ·rename_i c b h1 h2
  cases hq:(bO f&&(decide (0≤cIx f s.copy)&&(decide (0≤bIx f s.berth)&&(sEq c.at_ (mkS [])&&(lq f s.gone&&(aA (rq f s) 0 s.gone.length&&(eA (goF f s.gone) c b false==0))))))) with
  |false=>rw[hq] at h;cases h
  |true=>
   simp only[Bool.and_eq_true,decide_eq_true_eq,beq_iff_eq] at hq
   obtain ⟨q1,q2,q3,q4,q5,q6,q7⟩:=hq
   refine ⟨q1,q5,?_⟩
   simp only[jR]
   obtain ⟨hi,hc⟩:=List.getElem?_eq_some_iff.1 h1
   have hb:=List.mem_of_getElem? h2
   have hbn:s.berth=b.name:=by
    rcases ji (fun x:Bt=>sEq x.name s.berth) f.bts 0 with q|⟨k,hk,e1,e2⟩
    ·have:bIx f s.berth<0:=q
     omega
    ·have e1:bIx f s.berth=(k:Nat):=by rw[←Nat.zero_add k];exact e1
     rw[e1,jY,List.getElem?_eq_getElem hk] at h2
     rw[←Option.some.inj h2]
     exact ((cF _ _).1 e2).symm
   have hi':(cIx f s.copy).toNat<(goF f s.gone).cps.length:=by simp[goF];exact hi
   have hg:(goF f s.gone).cps[(cIx f s.copy).toNat]'hi'=c:=by
    simp only[goF,List.getElem_map,hc]
    exact xu q4
   have:=vl (Fe (GG q1) s.gone) hi' (by rw[hg];exact q4) (b:=b) hb (by rw[hg];exact q7)
   rw[hg,←hbn] at this
   exact qn this
 ·cases h
section
variable {f:Fl} {s:Sp} (hz:f.Sz 1048576) (hs:s.Sz 1048576)
include hz hs
theorem JZ {i:Nat} (hi:i<f.svs.length) (r1:C) (x y z:List (List C)):
  lim (apn 15 aH.d3) ([C.i i,C.b false,C.i 0,C.i 0]++f.e++s.e++[r1,.l x,.l y,.l z])=some (.brk 2 ([C.i i,C.b (f.cps.any (goP f.svs[i].name s.gone)),C.i (f.cps.countP (dnP f.svs[i].name s.gone):Nat)]++f.e++s.e++[r1,.l x,.l y,.l z])):=by
 have hlc:f.cps.length<big:=by have:=hz.2.2.1;simp only[big];omega
 have key:=bH (body:=apn 15 aH.d3) (S:=fun k=>[C.i i,C.b ((f.cps.take k).any (goP f.svs[i].name s.gone)),C.i ((f.cps.take k).countP (dnP f.svs[i].name s.gone):Nat),C.i (k:Nat)]++f.e++s.e++[r1,.l x,.l y,.l z]) (n:=f.cps.length) (b:=2)
  (ys:=[C.i i,C.b (f.cps.any (goP f.svs[i].name s.gone)),C.i (f.cps.countP (dnP f.svs[i].name s.gone):Nat)]++f.e++s.e++[r1,.l x,.l y,.l z])
  (fun k hk=>by
   have hin:=It s.gone f.cps[k].name hs.2.2.1
   rw[List.take_add_one,List.getElem?_eq_getElem hk,List.any_append,List.countP_append]
   simp only[Option.toList_some,List.any_cons,List.any_nil,Bool.or_false,List.countP_cons,List.countP_nil,Nat.zero_add,I1]
   have hcn:(f.cps.take k).countP (dnP f.svs[i].name s.gone)≤k:=Nat.le_trans (List.countP_le_length) (by rw[List.length_take];exact Nat.min_le_left _ _)
   generalize (f.cps.take k).countP (dnP f.svs[i].name s.gone)=cn at hcn
   generalize (f.cps.take k).any (goP f.svs[i].name s.gone)=ga
   have r0:((f.cps.map Cp.e).getD k []).getD 0 .nil=.s f.cps[k].name:=by rw[getD_map' Cp.e hk];rfl
   have r1':((f.cps.map Cp.e).getD k []).getD 1 .nil=.s f.cps[k].svc:=by rw[getD_map' Cp.e hk];rfl
   have r11:((f.cps.map Cp.e).getD k []).getD 11 .nil=.s f.cps[k].at_:=by rw[getD_map' Cp.e hk];rfl
   have s0:((f.svs.map Sv.e).getD i []).getD 0 .nil=.s f.svs[i].name:=by rw[getD_map' Sv.e hi];rfl
   have wc:w64 ((cn:Int)+1)=((cn+1:Nat):Int):=by rw[aQ (by omega) (by simp only[big] at hlc;omega)];rfl
   have m1:(f.cps[k].svc.toList==f.svs[i].name.toList)=sEq f.cps[k].svc f.svs[i].name:=rfl
   have m2:(f.cps[k].at_.toList==(Go.Ev.bs #[]).toList)=sEq f.cps[k].at_ (mkS []):=rfl
   simp only[Fl.e,Sp.e,jA,jB,apL,jC,jD,aH.d3,C.I_i,C.L_l,C.B_b,C.S_s,jW,ltL hk,ltL hi,decide_true,jR,jX,jY,r0,r1',s0,hin,ad,jI,m1]
   simp only[goP,dnP,inG,I1]
   generalize (s.gone.any fun x=>sEq x f.cps[k].name)=inn at hin
   generalize sEq f.cps[k].svc f.svs[i].name=mine
   generalize hww:sEq f.cps[k].at_ (mkS [])=ww at m2
   cases ga<;>cases mine<;>cases ww<;>cases inn<;>
    simp only[jZ,ja,jR,jS,jJ,apL,jC,jD,aH.d2,aH.d1,C.B_b,C.I_i,C.L_l,C.S_s,jW,ltL hk,decide_true,jX,jY,r0,r11,m2,hin,ad,jI,wc,w1 hk hlc,Bool.and_true,Bool.and_false,Bool.or_true,Bool.or_false,Bool.true_or,Bool.false_or,if_true,if_false,Nat.add_zero,Bool.true_and,Bool.false_and,Bool.false_eq_true])
  (by
   have:¬((f.cps.length:Int)<(f.cps.length:Int)):=by omega
   simp only[List.take_length,Fl.e,Sp.e,jA,jB,apL,jC,jD,aH.d3,C.I_i,C.L_l,jW,this,decide_false,jS])
  f.cps.length 0 rfl
 simpa using key
theorem HQ (hv:bO f=true) (hm:lq f s.gone=true) (r1:C) (x y z:List (List C)):lim (apn 12 aH.d5) ([C.i 0]++f.e++s.e++[r1,.l x,.l y,.l z])=some (.brk 0 [r1,.l x,.l y,.l z]):=by
 have hlb:f.svs.length<big:=by have:=hz.2.1.1;simp only[big];omega
 have key:=bH (body:=apn 12 aH.d5) (S:=fun i=>[C.i (i:Nat)]++f.e++s.e++[r1,.l x,.l y,.l z]) (n:=f.svs.length) (b:=0) (ys:=[r1,.l x,.l y,.l z])
  (fun i hi=>by
   have h1:=JZ hz hs hi r1 x y z
   have h2:=Hb hz hs.2.2 hv hm hi
   have s1:((f.svs.map Sv.e).getD i []).getD 1 .nil=.i f.svs[i].spare:=by rw[getD_map' Sv.e hi];rfl
   simp only[Fl.e,Sp.e,jA,jB] at h1
   simp only[Fl.e,Sp.e,jA,jB,apL,jC,jD,aH.d5,C.I_i,C.L_l,jW,ltL hi,decide_true,jR,h1,au,aH.d4,C.B_b,jX,jY,s1,w1 hi hlb]
   cases hg:f.cps.any (goP f.svs[i].name s.gone) with
   |false=>rfl
   |true=>
    have:=h2 hg
    have:¬((f.cps.countP (dnP f.svs[i].name s.gone):Int)>f.svs[i].spare):=by omega
    simp only[this,decide_false,jR,jS])
  (by
   have:¬((f.svs.length:Int)<(f.svs.length:Int)):=by omega
   simp only[Fl.e,Sp.e,jA,jB,apL,jC,jD,aH.d5,C.I_i,C.L_l,jW,this,decide_false,jS])
  f.svs.length 0 rfl
 exact key
end
theorem sj {A:List (List C)} (hA:BY A):aH [.l A]=some [.b true]:=by
 obtain ⟨f,s,g0,hz,hs⟩:=Fw hA
 have p1:=zL hz hs
 have p2:=Ai hz hs
 have gz:=Jq hz hs
 have w1':=Aj gz
 simp only[Fl.e,Sp.e,Gv,jA,jB] at g0 p1 p2 w1'
 simp only[aH,aH.d7,apL,jC,jD,C.L_l]
 cases decide ((A.length:Int)>1048576) with
 |true=>rfl
 |false=>
  simp only[jS,g0,p1,p2,call7,call5,ad,jI,jC,jD,C.L_l,C.B_b,w1',jZ,ja,beq_self_eq_true,jR]
  cases hq:(doR f s).2 with
  |false=>
   have:(doR f s).1.cps=[]:=by
    unfold doR at hq⊢
    split at hq
    ·rename_i c b h1 h2
     generalize (bO f&&_)=q at hq⊢
     cases q with
     |true=>cases hq
     |false=>rfl
    ·rfl
   simp only[ja,jR,this,List.map_nil,List.length_nil]
   rfl
  |true=>
   obtain ⟨hv,hm,hvg⟩:=Gj hq
   have D:=HQ hz hs hv hm (.b (doR f s).1.pack) ((doR f s).1.bts.map Bt.e) ((doR f s).1.svs.map Sv.e) ((doR f s).1.cps.map Cp.e)
   have V:=pw gz
   rw[hvg] at V
   simp only[Fl.e,Sp.e,jA,jB] at D V
   simp only[jZ,jS,D,au,apL,jC,jD,aH.d6,C.L_l,V,ad,jI,C.B_b,jV]
end Go.Ev
namespace Go.Ev
open Go.RowKit
def bE (n:Int):List C:=[.i n]
def zD (k:IntKind) (w:World) (a:Option Addr) (len cap:Nat) (zs:List Int):Prop:=
 (a=none∧len=0∧cap=0∧zs=[])∨
 ∃x,a=some x∧len≤cap∧cap≤maxLen∧zs.length=cap∧(∀i,i<zs.length→w.cell? (x.add i)=some (.int k (zs.getD i 0)))∧∀n∈zs,(Lit.int k n).wf=true
theorem Da {w:World} {a:Addr} {v:Value} (h:w.cell? a=some v):a.block<w.heap.size∧a.spot=none:=by
 simp only[World.cell?] at h
 split at h
 ·rename_i c _ _ hb
  refine ⟨?_,?_⟩
  ·exact (Array.getElem?_eq_some_iff.1 hb).1
  ·split at h
   ·simp at h
   ·rename_i hs;simpa using hs
 ·simp at h
theorem Dl {T:Tys} {F:Nat→Prop} {w:World} {a:Option Addr} {len cap:Nat} {zs:List Int} {t:TypeId} {d:TD} (hd:bh T t=some d) (hcts:d.cts=[.int .u8]) (hF:∀k,k<w.heap.size→F k) (h:zD .u8 w a len cap zs):
  cD T F w (.sl t) (.l ((zs.take len).map bE)) (.slice a len cap):=by
 rcases h with ⟨rfl,rfl,rfl,rfl⟩|⟨x,rfl,hl,hm,hz,hc,hw⟩
 ·exact .sl0 t none 0
 ·rcases Nat.eq_zero_or_pos len with h0|h0
  ·subst h0
   rw[List.take_zero,List.map_nil]
   exact .sl0 t (some x) cap
  ·have hc0:=hc 0 (by omega)
   have hx:=Da hc0
   rw[Addr.add,if_pos rfl] at hx
   obtain ⟨g,o,sp⟩:=x
   obtain ⟨hg,hsp⟩:=hx
   simp only at hsp;subst hsp
   have hlen:((zs.take len).map bE).length=len:=by simp;omega
   have key:=cD.sl (T:=T) (F:=F) (w:=w) t d ((zs.take len).map bE) g o cap (fun i _=>.int .u8 (zs.getD i 0)) hd (hF _ hg) (by omega)
    (fun i cs hi=>by
     simp only[List.getElem?_map,Option.map_eq_some_iff] at hi
     obtain ⟨n,_,rfl⟩:=hi
     rw[hcts];rfl)
    (fun i cs j c hi hj=>by
     have hil:i<len:=by
      have:=(List.getElem?_eq_some_iff.1 hi).1
      omega
     simp only[List.getElem?_map,Option.map_eq_some_iff] at hi
     obtain ⟨n,hn,rfl⟩:=hi
     have hj0:j=0:=by
      have:=(List.getElem?_eq_some_iff.1 hj).1
      simp only[bE,List.length_cons,List.length_nil] at this;omega
     subst hj0
     have h1:=hc i (by omega)
     rw[hcts]
     have ha:Addr.add ⟨g,o,none⟩ i=⟨g,o+(i*[CT.int .u8].length+0),none⟩:=by
      rw[Addr.add];split
      ·rename_i h;subst h;simp
      ·simp
     rw[←ha];exact h1)
    (fun i cs j c t' hi hj ht=>by
     have hil:i<len:=by
      have:=(List.getElem?_eq_some_iff.1 hi).1
      omega
     simp only[List.getElem?_map,Option.map_eq_some_iff] at hi
     obtain ⟨n,hn,rfl⟩:=hi
     have hj0:j=0:=by
      have:=(List.getElem?_eq_some_iff.1 hj).1
      simp only[bE,List.length_cons,List.length_nil] at this;omega
     subst hj0
     rw[hcts] at ht
     simp only[List.getElem?_cons_zero,Option.some.injEq] at ht
     subst ht
     simp only[bE,List.getElem?_cons_zero,Option.some.injEq] at hj
     subst hj
     rw[List.getElem?_take,if_pos hil] at hn
     rw[List.getD_eq_getElem?_getD,hn]
     exact .int .u8 n)
   rw[hlen] at key
   exact key
theorem IB {n:Int} (h:(Lit.int .u8 n).wf=true):0≤n∧n≤255:=by
 simp only[Lit.wf,Bool.and_eq_true,decide_eq_true_eq] at h
 exact h
theorem zD.bytes {w:World} {a:Option Addr} {len cap:Nat} {zs:List Int} (h:zD .u8 w a len cap zs):∀n,n∈zs.take len→0≤n∧n≤255:=by
 intro n hn
 have hn':=List.mem_of_mem_take hn
 rcases h with ⟨_,_,_,rfl⟩|⟨x,_,_,_,_,_,hw⟩
 ·simp at hn'
 ·exact IB (hw n hn')
theorem HH {zs:List Int} (h:∀n,n∈zs→0≤n∧n≤255):BY (zs.map bE):=fun r hr=>by
 obtain ⟨n,hn,rfl⟩:=List.mem_map.1 hr
 exact ⟨n,rfl,h n hn⟩
end Go.Ev
