/- Proved here: the law FnPilotFitsCard of the given program answers true at every input, and leaves the input as it was; no condition. This text: lemmas on the way (an evaluator of the program's code, sound once for all; the functions it prints; plain proofs on these). -/
import Derived.Test.YtkbmkhncjganfaaGreatDoorP3
set_option linter.all false
set_option autoImplicit false
set_option maxRecDepth 8000
namespace Go.Ev
def findIx {α:Type} (p:α→Bool):List α→Nat→Int
 |[],_=>-1
 |x::r,n=>bif p x then n else findIx p r (n+1)
def allFrom (p:Nat→Bool):Nat→Nat→Bool
 |_,0=>true
 |i,k+1=>p i&&allFrom p (i+1) k
theorem allFrom_iff (p:Nat→Bool):∀(k i:Nat),allFrom p i k=true↔∀j,i≤j→j<i+k→p j=true
 |0,i=>by simp[allFrom];omega
 |k+1,i=>by
  simp only[allFrom,Bool.and_eq_true,allFrom_iff p k (i+1)]
  constructor
  ·rintro ⟨h1,h2⟩ j hj hk
   rcases Nat.lt_or_eq_of_le hj with h|rfl
   ·exact h2 j h (by omega)
   ·exact h1
  ·intro h
   exact ⟨h i (Nat.le_refl _) (by omega),fun j h1 h2=>h j (by omega) (by omega)⟩
theorem chk_loop {body:List C→R} {S:Nat→List C} {p:Nat→Bool} {n b:Nat} {ys r:List C} (hs:∀i,i<n→body (S i)=bif p i then some (.again (S (i+1))) else some (.ret r)) (he:body (S n)=some (.brk b ys)):
  ∀k i,k+i=n→lim body (S i)=bif allFrom p i k then some (.brk b ys) else some (.ret r)
 |0,i,h=>by
  have:i=n:=by omega
  subst this
  rw[lim_brk he];rfl
 |k+1,i,h=>by
  have h1:=hs i (by omega)
  simp only[allFrom]
  cases hp:p i with
  |true=>
   rw[hp] at h1
   rw[lim_again h1,chk_loop hs he k (i+1) (by omega)]
   simp
  |false=>
   rw[hp] at h1
   rw[lim_ret h1]
   simp
theorem run_loop {body:List C→R} {S:Nat→List C} {n b:Nat} {ys:List C} (hs:∀i,i<n→body (S i)=some (.again (S (i+1)))) (he:body (S n)=some (.brk b ys)):
  ∀k i,k+i=n→lim body (S i)=some (.brk b ys)
 |0,i,h=>by
  have:i=n:=by omega
  subst this
  exact lim_brk he
 |k+1,i,h=>by rw[lim_again (hs i (by omega))];exact run_loop hs he k (i+1) (by omega)
theorem find_loop {α:Type} {l:List α} {body:List C→R} {S:Nat→List C} {p:α→Bool} {b:Nat} (hs:∀i (h:i<l.length),body (S i)=bif p l[i] then some (.ret [.i (i:Nat)]) else some (.again (S (i+1)))) (he:body (S l.length)=some (.brk b [])):
  ∀k i,k+i=l.length→bindBlk b (lim body (S i)) (fun _=>some (.ret [.i (-1)]))=some (.ret [.i (findIx p (l.drop i) i)])
 |0,i,h=>by
  have:i=l.length:=by omega
  subst this
  rw[lim_brk he];simp[findIx]
 |k+1,i,h=>by
  have hi:i<l.length:=by omega
  have h1:=hs i hi
  rw[List.drop_eq_getElem_cons hi]
  simp only[findIx]
  cases hp:p l[i] with
  |true=>rw[hp] at h1;rw[lim_ret h1];simp
  |false=>rw[hp] at h1;rw[lim_again h1,find_loop hs he k (i+1) (by omega)];simp
def bIx (f:Fl) (nm:Str):Int:=findIx (fun x:Bt=>sEq x.name nm) f.bts 0
def sIx (f:Fl) (nm:Str):Int:=findIx (fun x:Sv=>sEq x.name nm) f.svs 0
def cIx (f:Fl) (nm:Str):Int:=findIx (fun x:Cp=>sEq x.name nm) f.cps 0
theorem s_l2Service_eq (f:Fl) (nm:Str) (hl:f.svs.length≤1048576):s_l2Service (f.e++[.s nm])=some [.i (sIx f nm)]:=by
 have h:=find_loop (l:=f.svs) (body:=ap6 s_l2Service.d1) (S:=fun i=>[.s nm,.i (i:Nat),.b f.pack,.l (f.bts.map Bt.e),.l (f.svs.map Sv.e),.l (f.cps.map Cp.e)]) (p:=fun x=>sEq x.name nm) (b:=0)
  (fun i hi=>by
   simp only[apL,jC,jD,s_l2Service.d1,C.I_i,C.L_l,C.S_s,jW,jY,getD_map' Sv.e hi,w1 hi (show f.svs.length<big by simp only[big];omega)]
   simp only[Sv.e,jC,C.S_s]
   cases hs:sEq f.svs[i].name nm<;>simp only[sEq] at hs<;>simp[hs,hi])
  (by simp[s_l2Service.d1]) f.svs.length 0 rfl
 simp only[s_l2Service,s_l2Service.d3,Fl.e,jA,jB,apL,jC,jD]
 rw[show (fun xs:List C=>s_l2Service.d2)=fun _=>some (.ret [.i (-1)]) from rfl]
 erw[h]
 rfl
theorem s_l2Berth_eq (f:Fl) (nm:Str) (hl:f.bts.length≤1048576):s_l2Berth (f.e++[.s nm])=some [.i (bIx f nm)]:=by
 have h:=find_loop (l:=f.bts) (body:=ap6 s_l2Berth.d1) (S:=fun i=>[.s nm,.i (i:Nat),.b f.pack,.l (f.bts.map Bt.e),.l (f.svs.map Sv.e),.l (f.cps.map Cp.e)]) (p:=fun x=>sEq x.name nm) (b:=0)
  (fun i hi=>by
   simp only[apL,jC,jD,s_l2Berth.d1,C.I_i,C.L_l,C.S_s,jW,jY,getD_map' Bt.e hi,w1 hi (show f.bts.length<big by simp only[big];omega)]
   simp only[Bt.e,jC,C.S_s]
   cases hs:sEq f.bts[i].name nm<;>simp only[sEq] at hs<;>simp[hs,hi])
  (by simp[s_l2Berth.d1]) f.bts.length 0 rfl
 simp only[s_l2Berth,s_l2Berth.d3,Fl.e,jA,jB,apL,jC,jD]
 rw[show (fun xs:List C=>s_l2Berth.d2)=fun _=>some (.ret [.i (-1)]) from rfl]
 erw[h]
 rfl
theorem s_l2Copy_eq (f:Fl) (nm:Str) (hl:f.cps.length≤1048576):s_l2Copy (f.e++[.s nm])=some [.i (cIx f nm)]:=by
 have h:=find_loop (l:=f.cps) (body:=ap6 s_l2Copy.d1) (S:=fun i=>[.s nm,.i (i:Nat),.b f.pack,.l (f.bts.map Bt.e),.l (f.svs.map Sv.e),.l (f.cps.map Cp.e)]) (p:=fun x=>sEq x.name nm) (b:=0)
  (fun i hi=>by
   simp only[apL,jC,jD,s_l2Copy.d1,C.I_i,C.L_l,C.S_s,jW,jY,getD_map' Cp.e hi,w1 hi (show f.cps.length<big by simp only[big];omega)]
   simp only[Cp.e,jC,C.S_s]
   cases hs:sEq f.cps[i].name nm<;>simp only[sEq] at hs<;>simp[hs,hi])
  (by simp[s_l2Copy.d1]) f.cps.length 0 rfl
 simp only[s_l2Copy,s_l2Copy.d3,Fl.e,jA,jB,apL,jC,jD]
 rw[show (fun xs:List C=>s_l2Copy.d2)=fun _=>some (.ret [.i (-1)]) from rfl]
 erw[h]
 rfl
theorem i_pBerthAt_eq (f:Fl) (nm:Str) (hl:f.bts.length≤1048576):i_pBerthAt (f.e++[.s nm])=some [.i (bIx f nm)]:=by
 have h:=find_loop (l:=f.bts) (body:=ap4 slices_IndexFunc_PilotBerth.d1) (S:=fun i=>[.l (f.bts.map Bt.e),.p [.s nm],.i (f.bts.length:Nat),.i (i:Nat)]) (p:=fun x=>sEq x.name nm) (b:=0)
  (fun i hi=>by
   simp only[apL,jC,jD,slices_IndexFunc_PilotBerth.d1,C.I_i,C.L_l,C.S_s,jW,jY,getD_map' Bt.e hi,w1 hi (show f.bts.length<big by simp only[big];omega)]
   simp only[Bt.e,jC,jD,i_pBerthAt_1,i_pBerthAt_1.d1,apL,C.S_s,C.isP_p,C.P_p,jR,jV,call1,jI,C.B_b]
   cases hs:sEq f.bts[i].name nm<;>simp only[sEq] at hs<;>simp[hs,hi])
  (by simp[slices_IndexFunc_PilotBerth.d1]) f.bts.length 0 rfl
 simp only[i_pBerthAt,i_pBerthAt.d1,slices_IndexFunc_PilotBerth,slices_IndexFunc_PilotBerth.d3,Fl.e,jA,jB,apL,jC,jD,C.L_l,jW]
 rw[show (fun xs:List C=>slices_IndexFunc_PilotBerth.d2)=fun _=>some (.ret [.i (-1)]) from rfl]
 erw[h]
 rfl
theorem i_pCopyAt_eq (f:Fl) (nm:Str) (hl:f.cps.length≤1048576):i_pCopyAt (f.e++[.s nm])=some [.i (cIx f nm)]:=by
 have h:=find_loop (l:=f.cps) (body:=ap4 slices_IndexFunc_PilotCopy.d1) (S:=fun i=>[.l (f.cps.map Cp.e),.p [.s nm],.i (f.cps.length:Nat),.i (i:Nat)]) (p:=fun x=>sEq x.name nm) (b:=0)
  (fun i hi=>by
   simp only[apL,jC,jD,slices_IndexFunc_PilotCopy.d1,C.I_i,C.L_l,C.S_s,jW,jY,getD_map' Cp.e hi,w1 hi (show f.cps.length<big by simp only[big];omega)]
   simp only[Cp.e,jC,jD,i_pCopyAt_1,i_pCopyAt_1.d1,apL,C.S_s,C.isP_p,C.P_p,jR,jV,call1,jI,C.B_b]
   cases hs:sEq f.cps[i].name nm<;>simp only[sEq] at hs<;>simp[hs,hi])
  (by simp[slices_IndexFunc_PilotCopy.d1]) f.cps.length 0 rfl
 simp only[i_pCopyAt,i_pCopyAt.d1,slices_IndexFunc_PilotCopy,slices_IndexFunc_PilotCopy.d3,Fl.e,jA,jB,apL,jC,jD,C.L_l,jW]
 rw[show (fun xs:List C=>slices_IndexFunc_PilotCopy.d2)=fun _=>some (.ret [.i (-1)]) from rfl]
 erw[h]
 rfl
def mkNm (s:Str):Str:=mkS (s.data.toList.takeWhile (· !=61))
def mkVal (s:Str):Str:=mkS (s.data.toList.dropWhile (· !=61)).tail
def mkOk (s:Str):Bool:=nameOk (mkNm s)&&((s.data.toList.dropWhile (· !=61)).isEmpty||nameOk (mkVal s))
theorem part_size {s:Str} {l:List UInt8} (hl:s.size≤1048576) (h:l.length≤s.data.toList.length):(mkS l).size≤1048576:=by
 rw[mkS_size];rw[sz_list] at hl;omega
theorem s_l1Mark_eq (s:Str) (hl:s.size≤1048576):s_l1Mark [.s s]=some [.s (mkNm s),.s (mkVal s),.b (mkOk s)]:=by
 have key:∀(k i:Nat),s.data.toList.length-i≤k→i≤s.data.toList.length→(s.data.toList.takeWhile (· !=61)).length=i+((s.data.toList.drop i).takeWhile (· !=61)).length→
   bindBlk 0 (lim (ap2 s_l1Mark.d1) [.s s,.i i]) (ap1 s_l1Mark.d2)=some (.ret [.s (mkNm s),.s (mkVal s),.b (mkOk s)]):=by
  intro k
  induction k with
  |zero=>
   intro i hk hi hr
   have e:i=s.data.toList.length:=by omega
   have hd:s.data.toList.drop i=[]:=List.drop_eq_nil_of_le (by omega)
   rw[hd] at hr
   simp only[List.takeWhile_nil,List.length_nil,Nat.add_zero] at hr
   have hdw:s.data.toList.dropWhile (· !=61)=[]:=by rw[←drop_run,hr];exact List.drop_eq_nil_of_le (by omega)
   have htw:s.data.toList.takeWhile (· !=61)=s.data.toList:=by
    have:=List.takeWhile_append_dropWhile (p:=fun x:UInt8=>x !=61) (l:=s.data.toList)
    rw[hdw,List.append_nil] at this;exact this
   rw[lim_brk (i:=0) (ys:=[.s s]) (by rw[e,←sz_list];simp[s_l1Mark.d1])]
   have h1:mkNm s=s:=by unfold mkNm;rw[htw];rfl
   have h2:mkVal s=mkS []:=by unfold mkVal;rw[hdw];rfl
   simp[s_l1Mark.d2,s_l1NameOk_eq s hl,call1,mkOk,h1,h2,hdw,bs_nil]
  |succ k ih=>
   intro i hk hi hr
   rcases Nat.lt_or_ge i s.data.toList.length with hlt|hge
   ·have his:i<s.size:=by rw[sz_list];exact hlt
    have hw:=w1 his (show s.size<big by simp only[big];omega)
    have hd:=List.drop_eq_getElem_cons hlt
    rw[hd,List.takeWhile_cons] at hr
    by_cases hc:s.data.toList[i]=61
    ·have hb:(s.data.toList[i] !=61)=false:=by rw[hc];rfl
     rw[hb] at hr
     simp only[Bool.false_eq_true,if_false,List.length_nil,Nat.add_zero] at hr
     have h1:s.extract 0 i=mkNm s:=by
      rw[ext_mkS,List.drop_zero];unfold mkNm;rw[←hr,take_run]
     have h2:s.extract (i+1) s.size=mkVal s:=by
      rw[ext_mkS,sz_list,List.take_length];unfold mkVal
      rw[←drop_run,hr,List.tail_drop]
     have hn1:(mkNm s).size≤1048576:=part_size hl (run_len _ _)
     have hn2:(mkVal s).size≤1048576:=part_size hl (by
      have:=(List.dropWhile_suffix (l:=s.data.toList) (· !=61)).length_le
      rw[List.length_tail];omega)
     have hdw:(s.data.toList.dropWhile (· !=61)).isEmpty=false:=by
      rw[←drop_run,hr,hd];rfl
     have e1:(i:Int)≤(s.size:Int):=by omega
     have e2:((i+1:Nat):Int)≤(s.size:Int):=by omega
     have hbn:=bn s.data.toList[i] 61 61 rfl
     have hbt:(s.data.toList[i]==61)=true:=by rw[hc];rfl
     have h:ap2 s_l1Mark.d1 [.s s,.i i]=some (.ret [.s (mkNm s),.s (mkVal s),.b (mkOk s)]):=by
      simp only[apL,jC,jD,s_l1Mark.d1,C.I_i,C.S_s,jY,arr_getD hlt,hw,hbn,hbt,h1,h2,s_l1NameOk_eq _ hn1,s_l1NameOk_eq _ hn2,call1,jI,C.B_b,e1,e2,decide_true,jR,jX,Int.le_refl,mkOk,hdw,Bool.false_or]
      cases nameOk (mkNm s)<;>simp[his]
     rw[lim_ret h];simp
    ·have hb:(s.data.toList[i] !=61)=true:=by rw[bne_iff_ne];exact hc
     rw[hb] at hr
     simp only[if_true,List.length_cons] at hr
     have hbn:=bn s.data.toList[i] 61 61 rfl
     have hbf:(s.data.toList[i]==61)=false:=by rw[beq_eq_false_iff_ne];exact hc
     have h:ap2 s_l1Mark.d1 [.s s,.i i]=some (.again [.s s,.i (i+1:Nat)]):=by
      simp only[apL,jC,jD,s_l1Mark.d1,C.I_i,C.S_s,jY,arr_getD hlt,hw,hbn,hbf]
      simp[his]
     rw[lim_again h]
     exact ih (i+1) (by omega) (by omega) (by omega)
   ·exact ih i (by omega) hi hr
 have:=key _ 0 (Nat.le_refl _) (Nat.zero_le _) (by simp)
 simp only[s_l1Mark,s_l1Mark.d3,apL,jC]
 erw[this]
 rfl
theorem indexByte_eq:∀l:List UInt8,Lib.indexByte l 61=if (l.dropWhile (· !=61)).isEmpty then-1 else ((l.takeWhile (· !=61)).length:Int)
 |[]=>rfl
 |c::r=>by
  simp only[Lib.indexByte,indexByte_eq r,List.dropWhile_cons,List.takeWhile_cons]
  by_cases hc:c=61
  ·subst hc;simp
  ·have hb:(c !=61)=true:=by simp[hc]
   have hb2:(c==61)=false:=by simp[hc]
   rw[hb,hb2]
   simp only[if_true,Bool.false_eq_true,if_false]
   cases (r.dropWhile (· !=61)).isEmpty with
   |true=>simp
   |false=>
    have:¬((((r.takeWhile (· !=61)).length:Int)==-1)=true):=by rw[beq_iff_eq];omega
    simp only[Bool.false_eq_true,if_false,if_neg this,List.length_cons]
    omega
theorem i_pMark_eq (s:Str) (hl:s.size≤1048576):i_pMark [.s s]=some [.s (mkNm s),.s (mkVal s),.b (mkOk s)]:=by
 have e1:(bs #[61]).size=1:=rfl
 have e2:(bs #[61]).data.getD 0 0=61:=rfl
 have hix:internal_stringslite_Index [.s s,.s (bs #[61])]=some [.i (Lib.indexByte s.data.toList 61)]:=by
  have e3:Nat.toUInt8 (((61:UInt8).toNat:Nat):Int).toNat=61:=rfl
  have e5:((((1:Nat):Int)==0))=false:=rfl
  have e6:((((1:Nat):Int)==1))=true:=rfl
  have e7:(0:Int)<((1:Nat):Int):=by omega
  simp only[internal_stringslite_Index,internal_stringslite_Index.d2,apL,jC,jD,C.S_s,e1,e5,ja,jR,jJ]
  cases hq:((bs #[61]).toList==s.toList) with
  |true=>
   have:bs #[61]=s:=(sEq_iff (bs #[61]) s).1 hq
   subst this
   simp[internal_stringslite_Index.d1]
   decide
  |false=>
   simp only[internal_stringslite_Index.d1,C.B_b,C.I_i,C.S_s,jS,jR,e1,e6,e7,decide_true,e2,internal_stringslite_IndexByte,ibF,jC,jD,e3,call1,jI,jV]
 rw[indexByte_eq] at hix
 have hn1:(mkNm s).size≤1048576:=part_size hl (run_len _ _)
 have hn2:(mkVal s).size≤1048576:=part_size hl (by
  have:=(List.dropWhile_suffix (l:=s.data.toList) (· !=61)).length_le
  rw[List.length_tail];omega)
 simp only[i_pMark,i_pMark.d1,strings_Cut,strings_Cut.d1,internal_stringslite_Cut,internal_stringslite_Cut.d1,apL,jC,jD,hix,call1,jI,C.I_i,C.S_s,e1]
 cases he:(s.data.toList.dropWhile (· !=61)).isEmpty with
 |true=>
  have hdw:s.data.toList.dropWhile (· !=61)=[]:=by simpa using he
  have htw:s.data.toList.takeWhile (· !=61)=s.data.toList:=by
   have:=List.takeWhile_append_dropWhile (p:=fun x:UInt8=>x !=61) (l:=s.data.toList)
   rw[hdw,List.append_nil] at this;exact this
  have h1:mkNm s=s:=by unfold mkNm;rw[htw];rfl
  have h2:mkVal s=mkS []:=by unfold mkVal;rw[hdw];rfl
  have e8:¬((-1:Int)≥0):=by omega
  simp only[if_true,e8,decide_false,jS,jV,call3,jI,jC,jD,C.B_b,i_pName_eq s hl,mkOk,he,Bool.true_or,Bool.and_true,h1,h2,bs_nil]
  cases nameOk s<;>simp
 |false=>
  have hlt:(s.data.toList.takeWhile (· !=61)).length<s.data.toList.length:=by
   have h:=congrArg List.length (List.takeWhile_append_dropWhile (p:=fun x:UInt8=>x !=61) (l:=s.data.toList))
   rw[List.length_append] at h
   cases hq:s.data.toList.dropWhile (· !=61) with
   |nil=>rw[hq] at he;simp at he
   |cons x r=>rw[hq] at h;simp only[List.length_cons] at h;omega
  have his:(s.data.toList.takeWhile (· !=61)).length<s.size:=by rw[sz_list];exact hlt
  have hw:=w1 his (show s.size<big by simp only[big];omega)
  have h1:s.extract 0 (s.data.toList.takeWhile (· !=61)).length=mkNm s:=by
   rw[ext_mkS,List.drop_zero];unfold mkNm;rw[take_run]
  have h2:s.extract ((s.data.toList.takeWhile (· !=61)).length+1) s.size=mkVal s:=by
   rw[ext_mkS,sz_list,List.take_length];unfold mkVal
   rw[←drop_run,List.tail_drop]
  have e3:(((s.data.toList.takeWhile (· !=61)).length:Int)≥0):=by omega
  have e4:((s.data.toList.takeWhile (· !=61)).length:Int)≤(s.size:Int):=by omega
  have e5:(((s.data.toList.takeWhile (· !=61)).length+1:Nat):Int)≤(s.size:Int):=by omega
  have e6:((1:Nat):Int)=1:=rfl
  simp only[Bool.false_eq_true,if_false,e6,hw,e3,e4,e5,decide_true,jR,jX,Int.le_refl,jY,h1,h2,jV,call3,jI,jC,jD,C.B_b,i_pName_eq _ hn1,i_pName_eq _ hn2,mkOk,he,Bool.false_or,jZ,ja]
  cases nameOk (mkNm s)<;>cases nameOk (mkVal s)<;>simp
end Go.Ev
namespace Go.Ev
def sLt (a b:Str):Bool:=Op.bytesLess a.toList b.toList
theorem bytesLess_not:∀(a b:List UInt8),(Op.bytesLess a b||a==b)=!Op.bytesLess b a
 |[],[]=>by simp[Op.bytesLess]
 |[],_::_=>by simp[Op.bytesLess]
 |_::_,[]=>by simp[Op.bytesLess]
 |x::a,y::b=>by
  have ih:=bytesLess_not a b
  simp only[Op.bytesLess]
  rcases Nat.lt_trichotomy x.toNat y.toNat with h|h|h
  ·have h1:x<y:=h
   have h2:¬y<x:=fun h'=>Nat.lt_asymm h h'
   have h3:¬y=x:=fun e=>by subst e;exact Nat.lt_irrefl _ h
   simp[h1,h2,h3]
  ·have e:x=y:=UInt8.toNat_inj.1 h
   subst e
   have:¬x<x:=Nat.lt_irrefl x.toNat
   simp only[this,decide_false,beq_self_eq_true,Bool.false_or,Bool.true_and]
   simpa using ih
  ·have h1:¬x<y:=fun h'=>Nat.lt_asymm h h'
   have h2:y<x:=h
   have h3:¬x=y:=fun e=>by subst e;exact Nat.lt_irrefl _ h
   simp[h1,h2,h3]
theorem sLt_not (a b:Str):(sLt a b||sEq a b)=!sLt b a:=bytesLess_not _ _
theorem mget_mset (z v:C) (k k':Str):∀es:List (List C),mget z k (mset k' v es)=bif sEq k k' then v else mget z k es
 |[]=>by simp[mset,mget,sEq]
 |r::es=>by
  simp only[mset]
  cases h:(k'.toList==(r.getD 0 .nil).S.toList) with
  |true=>
   have e:k'=(r.getD 0 .nil).S:=(sEq_iff _ _).1 h
   simp only[jR,mget,jC,jD,C.S_s]
   cases hk:sEq k k' with
   |true=>
    have h1:(k.toList==k'.toList)=true:=hk
    rw[h1];rfl
   |false=>
    have h1:(k.toList==k'.toList)=false:=hk
    have h2:(k.toList==(r.getD 0 .nil).S.toList)=false:=by rw[←e];exact hk
    rw[h1,h2];rfl
  |false=>
   simp only[jS,mget,mget_mset z v k k' es]
   cases h2:sEq k k' with
   |true=>
    have e:=(sEq_iff _ _).1 h2
    subst e
    rw[h];rfl
   |false=>simp
theorem sEq_comm (a b:Str):sEq a b=sEq b a:=by
 rw[Bool.eq_iff_iff,sEq_iff,sEq_iff];exact eq_comm
def sAt (ms:List Str) (i:Nat):Str:=ms.getD i (mkS [])
theorem sAt_get {ms:List Str} {i:Nat} (h:i<ms.length):sAt ms i=ms[i]:=by
 unfold sAt;rw[List.getD_eq_getElem?_getD,List.getElem?_eq_getElem h];rfl
def dupN (ms:List Str) (nm:Str) (i:Nat):Bool:=allFrom (fun k=>!sEq (mkNm (sAt ms k)) nm) 0 i
def markAt (ms:List Str) (i:Nat):Bool:=mkOk (sAt ms i)&&(i==0||sLt (sAt ms (i-1)) (sAt ms i))&&dupN ms (mkNm (sAt ms i)) i
def marksOk (ms:List Str):Bool:=decide (ms.length≤10)&&allFrom (markAt ms) 0 ms.length
theorem allFrom_succ (p:Nat→Bool):∀(k i:Nat),allFrom p i (k+1)=(allFrom p i k&&p (i+k))
 |0,i=>by simp[allFrom]
 |k+1,i=>by
  rw[allFrom,allFrom_succ p k (i+1),allFrom]
  rw[show i+1+k=i+(k+1) by omega,Bool.and_assoc]
section
variable {ms:List Str} (hz:SsSz 1048576 ms)
include hz
theorem s_dup (i:Nat) (hi:i≤ms.length) (nm:Str):∀k j,k+j=i→lim (ap4 s_l2MarksOk.d1) [.l (ms.map sE),.i (i:Nat),.s nm,.i (j:Nat)]=bif allFrom (fun k=>!sEq (mkNm (sAt ms k)) nm) j k then some (.brk 2 [.l (ms.map sE),.i (i:Nat),.s nm]) else some (.ret [.b false]):=by
 have hl:ms.length<big:=by have:=hz.1;simp only[big];omega
 refine chk_loop (S:=fun j=>[.l (ms.map sE),.i (i:Nat),.s nm,.i (j:Nat)]) (fun j hj=>?_) ?_
 ·have hjl:j<ms.length:=by omega
  have hsz:(sAt ms j).size≤1048576:=by rw[sAt_get hjl];exact hz.2 _ (List.getElem_mem hjl)
  have hjI:(j:Int)<(i:Int):=by omega
  simp only[apL,jC,jD,s_l2MarksOk.d1,C.I_i,C.L_l,jW,jY,getD_map' sE hjl,←sAt_get hjl,w1 hjl hl]
  simp only[sE,jC,s_l1Mark_eq _ hsz,call3,jI,C.S_s,jD]
  cases hq:sEq (mkNm (sAt ms j)) nm<;>simp only[sEq] at hq<;>simp[hq,hj,hjl]
 ·simp[s_l2MarksOk.d1]
theorem s_l2MarksOk_eq:s_l2MarksOk [.l (ms.map sE)]=some [.b (marksOk ms)]:=by
 have hl:ms.length<big:=by have:=hz.1;simp only[big];omega
 have h:=chk_loop (body:=ap3 s_l2MarksOk.d4) (S:=fun i=>[.l (ms.map sE),.s (bif i==0 then mkS [] else mkNm (sAt ms (i-1))),.i (i:Nat)]) (p:=markAt ms) (n:=ms.length) (b:=0) (ys:=[]) (r:=[.b false])
  (fun i hi=>by
   have hsz:(sAt ms i).size≤1048576:=by rw[sAt_get hi];exact hz.2 _ (List.getElem_mem hi)
   have hd3:∀nm:Str,s_l2MarksOk.d3 (.l (ms.map sE)) (.i (i:Nat)) (.s nm)=bif dupN ms nm i then some (.again [.l (ms.map sE),.s nm,.i (i+1:Nat)]) else some (.ret [.b false]):=fun nm=>by
    have:=s_dup hz i (by omega) nm i 0 (by omega)
    simp only[Int.natCast_zero] at this
    simp only[s_l2MarksOk.d3,this,dupN]
    cases allFrom (fun k=>!sEq (mkNm (sAt ms k)) nm) 0 i<;>simp[s_l2MarksOk.d2,w1 hi hl]
   simp only[apL,jC,jD,s_l2MarksOk.d4,C.I_i,C.L_l,jW,jY,getD_map' sE hi,←sAt_get hi]
   simp only[sE,jC,s_l1Mark_eq _ hsz,call3,jI,C.S_s,jD,C.B_b,Nat.add_sub_cancel]
   rcases Nat.eq_zero_or_pos i with h0|h0
   ·subst h0
    cases hok:mkOk (sAt ms 0) with
    |false=>simp[hok,markAt,hi]
    |true=>
     have:=hd3 (mkNm (sAt ms 0))
     simp only[Int.natCast_zero] at this
     simp[hok,markAt,hi,this,dupN,allFrom]
   ·have hi1:i-1<ms.length:=by omega
    have hw:w64 ((i:Int)-1)=((i-1:Nat):Int):=by rw[w64_of (by omega) (by simp only[big] at hl;omega)];omega
    have e1:((i:Int)>0):=by omega
    have e2:(((i-1:Nat):Int)<(ms.length:Int)):=by omega
    have e3:((i:Int)<(ms.length:Int)):=by omega
    have e4:(i==0)=false:=by simp;omega
    have e5:(i+1==0)=false:=by simp
    simp only[hw,jY,getD_map' sE hi1,←sAt_get hi1,e1,e2,e3,e4,e5,decide_true,jR,jS,jX,sE,jC,C.S_s,markAt,Bool.false_or]
    show (bindNrm (bif (!(!mkOk (sAt ms i))) then (bif (!(!sLt (sAt ms (i-1)) (sAt ms i))) then (bif sEq (mkNm (sAt ms i)) (mkNm (sAt ms (i-1))) then _ else _) else _) else _) _)=_
    cases hok:mkOk (sAt ms i) with
    |false=>simp
    |true=>
     cases hlt:sLt (sAt ms (i-1)) (sAt ms i) with
     |false=>simp
     |true=>
      cases hq:sEq (mkNm (sAt ms i)) (mkNm (sAt ms (i-1))) with
      |false=>simp[hd3]
      |true=>
       have:dupN ms (mkNm (sAt ms i)) i=false:=by
        cases hdu:dupN ms (mkNm (sAt ms i)) i with
        |false=>rfl
        |true=>
         have:=(allFrom_iff _ _ _).1 hdu (i-1) (by omega) (by omega)
         simp only[Bool.not_eq_true'] at this
         rw[(sEq_iff _ _).1 hq] at this
         have h2:=(sEq_iff (mkNm (sAt ms (i-1))) (mkNm (sAt ms (i-1)))).2 rfl
         rw[h2] at this;simp at this
       simp[this])
  (by simp[s_l2MarksOk.d4]) ms.length 0 rfl
 simp only[Int.natCast_zero] at h
 have h:lim (ap3 s_l2MarksOk.d4) [.l (ms.map sE),.s (bs #[]),.i 0]=_:=h
 simp only[s_l2MarksOk,s_l2MarksOk.d6,apL,jC,C.L_l,jW,h,marksOk]
 by_cases h10:(ms.length:Int)>10
 ·have:¬ms.length≤10:=by omega
  simp[h10,this]
 ·have:ms.length≤10:=by omega
  simp only[h10,this,decide_true,decide_false,jS,Bool.true_and]
  cases allFrom (markAt ms) 0 ms.length<;>simp[s_l2MarksOk.d5]
def mapN (ms:List Str):Nat→List (List C)
 |0=>[]
 |i+1=>mset (mkNm (sAt ms i)) (.b true) (mapN ms i)
omit hz in
theorem mapN_get (nm:Str):∀i,(mget (.b false) nm (mapN ms i)).B=!dupN ms nm i
 |0=>rfl
 |i+1=>by
  have hd:dupN ms nm (i+1)=(dupN ms nm i&&!sEq (mkNm (sAt ms i)) nm):=by
   unfold dupN;rw[allFrom_succ];simp
  rw[mapN,mget_mset,hd,sEq_comm]
  have ih:=mapN_get nm i
  cases h:sEq (mkNm (sAt ms i)) nm<;>simp[ih]
omit hz in
theorem prev_not (a b:Str):((Op.bytesLess b.toList a.toList)||(b.toList==a.toList))=!sLt a b:=by
 have:=sLt_not b a
 exact this
theorem i_marks (name zone:Str) (room hold:Int) (shut:Bool):lim (ap10 i_pBerthOk.d1) [.l (ms.map sE),.i (ms.length:Nat),.i 0,.s name,.s zone,.l (ms.map sE),.i room,.i hold,.b shut,.l []]=
  bif allFrom (markAt ms) 0 ms.length then some (.brk 0 []) else some (.ret [.b false]):=by
 have h:=fun hl:ms.length<big=>chk_loop (body:=ap10 i_pBerthOk.d1) (S:=fun i=>[.l (ms.map sE),.i (ms.length:Nat),.i (i:Nat),.s name,.s zone,.l (ms.map sE),.i room,.i hold,.b shut,.l (mapN ms i)]) (p:=markAt ms) (n:=ms.length) (b:=0) (ys:=[]) (r:=[.b false])
  (fun i hi=>by
   have hsz:(sAt ms i).size≤1048576:=by rw[sAt_get hi];exact hz.2 _ (List.getElem_mem hi)
   have e3:((i:Int)<(ms.length:Int)):=by omega
   simp only[apL,jC,jD,i_pBerthOk.d1,C.I_i,C.L_l,jW,jY,getD_map' sE hi,←sAt_get hi,w1 hi hl,e3,decide_true,jR,jX]
   simp only[sE,jC,i_pMark_eq _ hsz,call3,jI,C.S_s,jD,C.B_b,mapN_get,Bool.not_not,markAt]
   cases hok:mkOk (sAt ms i) with
   |false=>simp
   |true=>
    cases hdu:dupN ms (mkNm (sAt ms i)) i with
    |false=>simp
    |true=>
     rcases Nat.eq_zero_or_pos i with h0|h0
     ·subst h0;simp[mapN]
     ·have hi1:i-1<ms.length:=by omega
      have hw:w64 ((i:Int)-1)=((i-1:Nat):Int):=by rw[w64_of (by omega) (by simp only[big] at hl;omega)];omega
      have e1:((i:Int)>0):=by omega
      have e2:(((i-1:Nat):Int)<(ms.length:Int)):=by omega
      have e4:(i==0)=false:=by simp;omega
      simp only[hw,jY,getD_map' sE hi1,←sAt_get hi1,e1,e2,e4,decide_true,jR,jX,sE,jC,C.S_s,prev_not,Bool.false_or,jZ,ja,jS,Bool.true_and,Bool.and_true]
      cases sLt (sAt ms (i-1)) (sAt ms i)<;>simp[mapN])
  (by simp[i_pBerthOk.d1]) ms.length 0 rfl
 have h:=h (by have:=hz.1;simp only[big];omega)
 simpa [mapN] using h
end
def berthOk (b:Bt):Bool:=nameOk b.name&&(nameOk b.zone&&(marksOk b.marks&&(within b.room 0 1000&&within b.hold 0 1000)))
theorem s_l2BerthOk_eq (b:Bt) (hz:b.Sz 1048576):s_l2BerthOk b.e=some [.b (berthOk b)]:=by
 simp only[s_l2BerthOk,s_l2BerthOk.d1,Bt.e,apL,jC,jD,s_l1NameOk_eq _ hz.1,s_l1NameOk_eq _ hz.2.1,s_l2MarksOk_eq hz.2.2,s_l1In_eq,call1,jI,C.B_b,berthOk]
 cases nameOk b.name<;>cases nameOk b.zone<;>cases marksOk b.marks<;>cases within b.room 0 1000<;>simp
theorem i_pBerthOk_eq (b:Bt) (hz:b.Sz 1048576):i_pBerthOk b.e=some [.b (berthOk b)]:=by
 have hm:=i_marks (ms:=b.marks) hz.2.2 b.name b.zone b.room b.hold b.shut
 simp only[i_pBerthOk,i_pBerthOk.d3,Bt.e,apL,jC,jD,i_pName_eq _ hz.1,i_pName_eq _ hz.2.1,i_within_eq,call1,jI,C.B_b,C.L_l,jW,nils,hm,berthOk,marksOk]
 by_cases h10:(b.marks.length:Int)>10
 ·have:¬b.marks.length≤10:=by omega
  simp only[h10,this,decide_true,decide_false]
  cases nameOk b.name<;>cases nameOk b.zone<;>simp
 ·have:b.marks.length≤10:=by omega
  simp only[h10,this,decide_true,decide_false]
  cases nameOk b.name<;>cases nameOk b.zone<;>cases within b.room 0 1000<;>cases within b.hold 0 1000<;>cases allFrom (markAt b.marks) 0 b.marks.length<;>simp[i_pBerthOk.d2]
end Go.Ev
namespace Go.Ev
def selOk (s:Str):Bool:=(pp s).code==0
def likeOk (x:Lk):Bool:=selOk x.sel&&within x.w (-9) 9
def noneOr (s:Str):Bool:=sEq s (mkS [])||nameOk s
def copyOk (c:Cp):Bool:=
 nameOk c.name&&(within c.rank 0 100&&(within c.born 0 1000000&&(within c.room 0 1000&&(within c.hold 0 1000&&(decide (c.likes.length≤5)&&(within c.apart 0 2&&(noneOr c.near&&(noneOr c.fixed&&(selOk c.sel&&c.likes.all likeOk)))))))))
theorem s_l2SelectOk_eq (s:Str) (hl:s.size≤1048576):s_l2SelectOk [.s s]=some [.b (selOk s)]:=by
 simp only[s_l2SelectOk,s_l2SelectOk.d1,apL,jC,s_PilotParse_eq s hl,call2,jI,jD,C.I_i,jV,selOk]
 have:(((pp s).code:Int)==0)=((pp s).code==0):=by
  rw[Bool.eq_iff_iff,beq_iff_eq,beq_iff_eq];omega
 rw[this]
def likeP (l:List Lk) (i:Nat):Bool:=match l[i]? with|some x=>likeOk x|none=>true
theorem likeP_all (l:List Lk):allFrom (likeP l) 0 l.length=l.all likeOk:=by
 rw[Bool.eq_iff_iff,allFrom_iff,List.all_eq_true]
 constructor
 ·intro h x hx
  obtain ⟨i,hi,rfl⟩:=List.getElem_of_mem hx
  have:=h i (Nat.zero_le _) (by omega)
  simpa [likeP,hi] using this
 ·intro h i _ hi
  have hi:i<l.length:=by omega
  simpa [likeP,hi] using h _ (List.getElem_mem hi)
theorem s_likes (c:Cp) (hz:c.Sz 1048576) (K:List C→R):bindBlk 0 (lim (ap13 s_l2CopyOk.d1) ([.i 0]++c.e)) K=bif c.likes.all likeOk then K [] else some (.ret [.b false]):=by
 have hl:c.likes.length<big:=by have:=hz.2.2.2.2.2.2.1;simp only[big];omega
 have h:=chk_loop (body:=ap13 s_l2CopyOk.d1) (S:=fun i=>[.i (i:Nat)]++c.e) (p:=likeP c.likes) (n:=c.likes.length) (b:=0) (ys:=[]) (r:=[.b false])
  (fun i hi=>by
   have hsz:=hz.2.2.2.2.2.2.2 _ (List.getElem_mem hi)
   have e3:((i:Int)<(c.likes.length:Int)):=by omega
   have hp:likeP c.likes i=likeOk c.likes[i]:=by simp[likeP,hi]
   simp only[Cp.e,jA,jB,apL,jC,jD,s_l2CopyOk.d1,C.I_i,C.L_l,jW,jY,getD_map' Lk.e hi,w1 hi hl,e3,decide_true,jR,jX,hp,likeOk]
   simp only[Lk.e,jC,jD,s_l2SelectOk_eq _ hsz,s_l1In_eq,call1,jI,C.B_b]
   cases selOk c.likes[i].sel<;>cases within c.likes[i].w (-9) 9<;>simp)
  (by simp[s_l2CopyOk.d1,Cp.e]) c.likes.length 0 rfl
 simp only[Int.natCast_zero] at h
 rw[h,likeP_all]
 cases c.likes.all likeOk<;>simp
theorem s_l2CopyOk_eq (c:Cp) (hz:c.Sz 1048576):s_l2CopyOk c.e=some [.b (nameOk c.svc&&copyOk c)]:=by
 obtain ⟨z1,z2,z3,z4,z5,z6,z7,z8⟩:=hz
 have hlp:=s_likes c ⟨z1,z2,z3,z4,z5,z6,z7,z8⟩ (fun xs=>s_l2CopyOk.d2)
 simp only[Cp.e,jA,jB] at hlp
 have q1:(c.near.toList==(bs #[]).toList)=sEq c.near (mkS []):=rfl
 have q2:(c.fixed.toList==(bs #[]).toList)=sEq c.fixed (mkS []):=rfl
 simp only[s_l2CopyOk,s_l2CopyOk.d4,Cp.e,apL,jC,jD,s_l1NameOk_eq _ z1,s_l1NameOk_eq _ z2,s_l1NameOk_eq _ z4,s_l1NameOk_eq _ z5,s_l1In_eq,s_l2SelectOk_eq _ z3,call1,jI,C.B_b,C.L_l,C.S_s,jW,copyOk,noneOr,q1,q2]
 have e5:decide ((c.likes.length:Int)>5)=!decide (c.likes.length≤5):=by
  by_cases h:c.likes.length≤5
  ·have:¬((c.likes.length:Int)>5):=by omega
   simp[h,this]
  ·have:((c.likes.length:Int)>5):=by omega
   simp[h,this]
 rw[e5]
 cases nameOk c.name with
 |false=>simp
 |true=>
 cases nameOk c.svc with
 |false=>simp
 |true=>
 cases within c.rank 0 100 with
 |false=>simp
 |true=>
 cases within c.born 0 1000000 with
 |false=>simp
 |true=>
 cases within c.room 0 1000 with
 |false=>simp
 |true=>
 cases within c.hold 0 1000 with
 |false=>simp
 |true=>
 simp only[jZ,ja,jR,jS,Bool.true_and]
 cases selOk c.sel with
 |false=>simp[s_l2CopyOk.d3]
 |true=>
 cases decide (c.likes.length≤5) with
 |false=>simp[s_l2CopyOk.d3]
 |true=>
 cases within c.apart 0 2 with
 |false=>simp[s_l2CopyOk.d3]
 |true=>
 simp only[jZ,ja,jR,jS,Bool.true_and]
 cases sEq c.near (mkS [])<;>cases nameOk c.near<;>cases sEq c.fixed (mkS [])<;>cases nameOk c.fixed<;>simp[s_l2CopyOk.d3,hlp]<;>cases c.likes.all likeOk<;>simp[s_l2CopyOk.d2]
theorem i_likes (l:List Lk) (hz:l.length≤1048576∧∀x,x∈l→x.sel.size≤1048576) (K:List C→R):bindBlk 0 (lim (ap3 i_pCopyOk.d1) [.l (l.map Lk.e),.i (l.length:Nat),.i 0]) K=bif l.all likeOk then K [] else some (.ret [.b false]):=by
 have hl:l.length<big:=by have:=hz.1;simp only[big];omega
 have h:=chk_loop (body:=ap3 i_pCopyOk.d1) (S:=fun i=>[.l (l.map Lk.e),.i (l.length:Nat),.i (i:Nat)]) (p:=likeP l) (n:=l.length) (b:=0) (ys:=[]) (r:=[.b false])
  (fun i hi=>by
   have hsz:=hz.2 _ (List.getElem_mem hi)
   have e3:((i:Int)<(l.length:Int)):=by omega
   have hp:likeP l i=likeOk l[i]:=by simp[likeP,hi]
   have hc:(((pp l[i].sel).code:Int) !=0)=!selOk l[i].sel:=by
    unfold selOk bne
    congr 1
    rw[Bool.eq_iff_iff,beq_iff_eq,beq_iff_eq];omega
   simp only[apL,jC,jD,i_pCopyOk.d1,C.I_i,C.L_l,jW,jY,getD_map' Lk.e hi,w1 hi hl,e3,decide_true,jR,jX,hp,likeOk]
   simp only[Lk.e,jC,jD,i_pParse_eq _ hsz,i_within_eq,call1,call2,jI,C.B_b,C.I_i,hc]
   cases selOk l[i].sel<;>cases within l[i].w (-9) 9<;>simp)
  (by simp[i_pCopyOk.d1]) l.length 0 rfl
 simp only[Int.natCast_zero] at h
 rw[h,likeP_all]
 cases l.all likeOk<;>simp
theorem i_pCopyOk_eq (c:Cp) (hz:c.Sz 1048576):i_pCopyOk c.e=some [.b (copyOk c)]:=by
 obtain ⟨z1,z2,z3,z4,z5,z6,z7⟩:=hz
 have hlp:=i_likes c.likes z7 (fun xs=>i_pCopyOk.d2)
 have q1:(c.near.toList==(bs #[]).toList)=sEq c.near (mkS []):=rfl
 have q2:(c.fixed.toList==(bs #[]).toList)=sEq c.fixed (mkS []):=rfl
 have hc:(((pp c.sel).code:Int) !=0)=!selOk c.sel:=by
  unfold selOk bne
  congr 1
  rw[Bool.eq_iff_iff,beq_iff_eq,beq_iff_eq];omega
 simp only[i_pCopyOk,i_pCopyOk.d4,Cp.e,apL,jC,jD,i_pName_eq _ z1,i_pName_eq _ z4,i_pName_eq _ z5,i_within_eq,call1,jI,C.B_b,C.L_l,C.S_s,jW,copyOk,noneOr,q1,q2]
 have e5:decide ((c.likes.length:Int)>5)=!decide (c.likes.length≤5):=by
  by_cases h:c.likes.length≤5
  ·have:¬((c.likes.length:Int)>5):=by omega
   simp[h,this]
  ·have:((c.likes.length:Int)>5):=by omega
   simp[h,this]
 rw[e5]
 have hd3:∀b:Bool,i_pCopyOk.d3 (.b b) (.s c.name) (.s c.svc) (.i c.rank) (.i c.born) (.i c.room) (.i c.hold) (.s c.sel) (.l (c.likes.map Lk.e)) (.i c.apart) (.s c.near) (.s c.fixed) (.s c.at_)=bif b then some (.ret [.b false]) else bif selOk c.sel&&c.likes.all likeOk then some (.ret [.b true]) else some (.ret [.b false]):=fun b=>by
  simp only[i_pCopyOk.d3,C.B_b,i_pParse_eq _ z3,call2,jI,jC,jD,C.I_i,hc,C.L_l,jW,hlp]
  cases b<;>cases selOk c.sel<;>cases c.likes.all likeOk<;>simp[i_pCopyOk.d2]
 cases nameOk c.name with
 |false=>simp[hd3]
 |true=>
 cases within c.rank 0 100 with
 |false=>simp[hd3]
 |true=>
 cases within c.born 0 1000000 with
 |false=>simp[hd3]
 |true=>
 cases within c.room 0 1000 with
 |false=>simp[hd3]
 |true=>
 cases within c.hold 0 1000 with
 |false=>simp[hd3]
 |true=>
 simp only[jZ,ja,jR,jS,Bool.true_and]
 cases decide (c.likes.length≤5) with
 |false=>simp[hd3]
 |true=>
 cases within c.apart 0 2 with
 |false=>simp[hd3]
 |true=>
 simp only[jZ,ja,jR,jS,Bool.true_and]
 cases sEq c.near (mkS [])<;>cases nameOk c.near<;>cases sEq c.fixed (mkS [])<;>cases nameOk c.fixed<;>simp[hd3]<;>cases selOk c.sel&&c.likes.all likeOk<;>simp
def usedR (l:List Cp) (nm:Str):Nat→Int
 |0=>0
 |i+1=>match l[i]? with
  |some c=>bif sEq c.at_ nm then w64 (usedR l nm i+c.room) else usedR l nm i
  |none=>usedR l nm i
def usedH (l:List Cp) (nm:Str):Nat→Int
 |0=>0
 |i+1=>match l[i]? with
  |some c=>bif sEq c.at_ nm then w64 (usedH l nm i+c.hold) else usedH l nm i
  |none=>usedH l nm i
def used (f:Fl) (nm:Str):Int×Int:=bif sEq nm (mkS [])||decide (bIx f nm<0) then (0,0) else (usedR f.cps nm f.cps.length,usedH f.cps nm f.cps.length)
theorem s_PilotUsed_eq (f:Fl) (nm:Str) (hz:f.Sz 1048576):s_PilotUsed (f.e++[.s nm])=some [.i (used f nm).1,.i (used f nm).2]:=by
 have hl:f.cps.length<big:=by have:=hz.2.2.1;simp only[big];omega
 have hb:=s_l2Berth_eq f nm hz.1.1
 have q1:(nm.toList==(bs #[]).toList)=sEq nm (mkS []):=rfl
 simp only[Fl.e,jA,jB] at hb
 simp only[s_PilotUsed,s_PilotUsed.d4,Fl.e,jA,jB,apL,jC,jD,hb,call1,jI,C.I_i,used]
 cases hlt:decide (bIx f nm<0) with
 |true=>simp
 |false=>
  simp only[jS,Bool.or_false]
  cases he:sEq nm (mkS []) with
  |true=>
   have h:=run_loop (body:=ap8 s_PilotUsed.d2) (S:=fun i=>[.s nm,.i 0,.i 0,.i (i:Nat),.b f.pack,.l (f.bts.map Bt.e),.l (f.svs.map Sv.e),.l (f.cps.map Cp.e)]) (n:=f.cps.length) (b:=0) (ys:=[.i 0,.i 0])
    (fun i hi=>by
     have e3:((i:Int)<(f.cps.length:Int)):=by omega
     simp only[apL,jC,jD,s_PilotUsed.d2,s_PilotUsed.d1,C.I_i,C.L_l,C.S_s,jW,q1,he,e3,decide_true,jR,jZ,jS,jJ,C.B_b,w1 hi hl])
    (by simp[s_PilotUsed.d2]) f.cps.length 0 rfl
   simp only[Int.natCast_zero] at h
   rw[h]
   simp[s_PilotUsed.d3]
  |false=>
   have h:=run_loop (body:=ap8 s_PilotUsed.d2) (S:=fun i=>[.s nm,.i (usedR f.cps nm i),.i (usedH f.cps nm i),.i (i:Nat),.b f.pack,.l (f.bts.map Bt.e),.l (f.svs.map Sv.e),.l (f.cps.map Cp.e)]) (n:=f.cps.length) (b:=0) (ys:=[.i (usedR f.cps nm f.cps.length),.i (usedH f.cps nm f.cps.length)])
    (fun i hi=>by
     have e3:((i:Int)<(f.cps.length:Int)):=by omega
     simp only[apL,jC,jD,s_PilotUsed.d2,s_PilotUsed.d1,C.I_i,C.L_l,C.S_s,jW,jY,getD_map' Cp.e hi,q1,he,e3,decide_true,jR,ja,jX,jJ,C.B_b,w1 hi hl,usedR,usedH,List.getElem?_eq_getElem hi]
     simp only[Cp.e,jC,jD,C.S_s,C.I_i]
     show (bif sEq f.cps[i].at_ nm then _ else _)=_
     cases sEq f.cps[i].at_ nm<;>simp)
    (by simp[s_PilotUsed.d2]) f.cps.length 0 rfl
   simp only[Int.natCast_zero,usedR,usedH] at h
   rw[h]
   simp[s_PilotUsed.d3]
theorem i_PilotUsed_eq (f:Fl) (nm:Str) (hz:f.Sz 1048576):i_PilotUsed (f.e++[.s nm])=some [.i (used f nm).1,.i (used f nm).2]:=by
 have hl:f.cps.length<big:=by have:=hz.2.2.1;simp only[big];omega
 have hb:=i_pBerthAt_eq f nm hz.1.1
 have q1:(nm.toList==(bs #[]).toList)=sEq nm (mkS []):=rfl
 simp only[Fl.e,jA,jB] at hb
 simp only[i_PilotUsed,i_PilotUsed.d3,Fl.e,jA,jB,apL,jC,jD,C.S_s,q1,hb,call1,jI,C.I_i,C.L_l,jW,used]
 cases he:sEq nm (mkS []) with
 |true=>simp
 |false=>
  simp only[ja,jR,Bool.false_or]
  cases hlt:decide (bIx f nm<0) with
  |true=>simp
  |false=>
   have h:=run_loop (body:=ap6 i_PilotUsed.d1) (S:=fun i=>[.s nm,.i (usedR f.cps nm i),.i (usedH f.cps nm i),.l (f.cps.map Cp.e),.i (f.cps.length:Nat),.i (i:Nat)]) (n:=f.cps.length) (b:=0) (ys:=[.i (usedR f.cps nm f.cps.length),.i (usedH f.cps nm f.cps.length)])
    (fun i hi=>by
     have e3:((i:Int)<(f.cps.length:Int)):=by omega
     simp only[apL,jC,jD,i_PilotUsed.d1,C.I_i,C.L_l,C.S_s,jW,jY,getD_map' Cp.e hi,e3,decide_true,jR,jX,w1 hi hl,usedR,usedH,List.getElem?_eq_getElem hi]
     simp only[Cp.e,jC,jD,C.S_s,C.I_i]
     show (bif sEq f.cps[i].at_ nm then _ else _)=_
     cases sEq f.cps[i].at_ nm<;>simp)
    (by simp[i_PilotUsed.d1]) f.cps.length 0 rfl
   simp only[Int.natCast_zero,usedR,usedH] at h
   rw[h]
   simp[i_PilotUsed.d2]
end Go.Ev
namespace Go.Ev
theorem findIx_any {α:Type} (p:α→Bool):∀(l:List α) (n:Nat),decide (findIx p l n<0)=!l.any p
 |[],n=>by simp[findIx]
 |x::r,n=>by
  cases hx:p x with
  |true=>
   have:¬((n:Int)<0):=by omega
   simp[findIx,hx,this]
  |false=>simp[findIx,hx,findIx_any p r (n+1)]
def standC (l:List Cp) (nm:Str):Nat→Nat
 |0=>0
 |i+1=>match l[i]? with
  |some c=>bif sEq c.at_ nm then standC l nm i+1 else standC l nm i
  |none=>standC l nm i
theorem standC_le (l:List Cp) (nm:Str):∀i,standC l nm i≤i
 |0=>Nat.le_refl _
 |i+1=>by
  have:=standC_le l nm i
  simp only[standC]
  split
  ·rename_i c _
   cases sEq c.at_ nm<;>simp<;>omega
  ·omega
theorem s_l2Stand_eq (f:Fl) (nm:Str) (hz:f.Sz 1048576):s_l2Stand (f.e++[.s nm])=some [.i (standC f.cps nm f.cps.length:Nat)]:=by
 have hl:f.cps.length<big:=by have:=hz.2.2.1;simp only[big];omega
 have h:=run_loop (body:=ap7 s_l2Stand.d1) (S:=fun i=>[.s nm,.i (standC f.cps nm i:Nat),.i (i:Nat),.b f.pack,.l (f.bts.map Bt.e),.l (f.svs.map Sv.e),.l (f.cps.map Cp.e)]) (n:=f.cps.length) (b:=0) (ys:=[.i (standC f.cps nm f.cps.length:Nat)])
  (fun i hi=>by
   have e3:((i:Int)<(f.cps.length:Int)):=by omega
   have hw:=w64n (n:=standC f.cps nm i) (by have:=standC_le f.cps nm i;omega)
   simp only[apL,jC,jD,s_l2Stand.d1,C.I_i,C.L_l,C.S_s,jW,jY,getD_map' Cp.e hi,e3,decide_true,jR,jX,w1 hi hl,hw,standC,List.getElem?_eq_getElem hi]
   simp only[Cp.e,jC,jD,C.S_s]
   show (bif sEq f.cps[i].at_ nm then _ else _)=_
   cases sEq f.cps[i].at_ nm<;>simp)
  (by simp[s_l2Stand.d1]) f.cps.length 0 rfl
 simp only[Int.natCast_zero,standC] at h
 simp only[s_l2Stand,s_l2Stand.d3,Fl.e,jA,jB,apL,jC,jD]
 rw[h]
 simp[s_l2Stand.d2]
def svA (f:Fl) (i:Nat):Bool:=match f.svs[i]? with
 |some s=>nameOk s.name&&((i==0||match f.svs[i-1]? with|some q=>sLt q.name s.name|none=>true)&&within s.spare 0 60)
 |none=>true
def cpA (f:Fl) (i:Nat):Bool:=match f.cps[i]? with
 |some c=>copyOk c&&(f.svs.any (fun s=>sEq s.name c.svc)&&((i==0||match f.cps[i-1]? with|some q=>sLt q.name c.name|none=>true)&&(sEq c.at_ (mkS [])||f.bts.any (fun b=>sEq b.name c.at_))))
 |none=>true
def btA (f:Fl) (i:Nat):Bool:=match f.bts[i]? with
 |some b=>berthOk b&&(i==0||match f.bts[i-1]? with|some q=>sLt q.name b.name|none=>true)
 |none=>true
def fitA (f:Fl) (i:Nat):Bool:=match f.bts[i]? with
 |some b=>decide ((used f b.name).1≤b.room)&&(decide ((used f b.name).2≤b.hold)&&decide (standC f.cps b.name f.cps.length≤10))
 |none=>true
def validF (f:Fl):Bool:=decide (f.bts.length≤12)&&(decide (f.svs.length≤30)&&(decide (f.cps.length≤60)&&(allFrom (svA f) 0 f.svs.length&&(allFrom (cpA f) 0 f.cps.length&&(allFrom (btA f) 0 f.bts.length&&allFrom (fitA f) 0 f.bts.length)))))
section
variable {f:Fl} (hz:f.Sz 1048576)
include hz
theorem s_V1 (K:List C→R):bindBlk 0 (lim (ap5 s_PilotValid.d1) ([.i 0]++f.e)) K=bif allFrom (svA f) 0 f.svs.length then K f.e else some (.ret [.b false]):=by
 have hl:f.svs.length<big:=by have:=hz.2.1.1;simp only[big];omega
 have h:=chk_loop (body:=ap5 s_PilotValid.d1) (S:=fun i=>[.i (i:Nat)]++f.e) (p:=svA f) (n:=f.svs.length) (b:=0) (ys:=f.e) (r:=[.b false])
  (fun i hi=>by
   have hsz:=hz.2.1.2 _ (List.getElem_mem hi)
   have e3:((i:Int)<(f.svs.length:Int)):=by omega
   have hp:svA f i=(nameOk f.svs[i].name&&((i==0||match f.svs[i-1]? with|some q=>sLt q.name f.svs[i].name|none=>true)&&within f.svs[i].spare 0 60)):=by simp[svA,hi]
   simp only[Fl.e,jA,jB,apL,jC,jD,s_PilotValid.d1,C.I_i,C.L_l,jW,jY,getD_map' Sv.e hi,w1 hi hl,e3,decide_true,jR,jX,hp]
   simp only[Sv.e,jC,jD,s_l1NameOk_eq _ hsz,s_l1In_eq,call1,jI,C.B_b,C.S_s]
   cases hn:nameOk f.svs[i].name with
   |false=>simp
   |true=>
    rcases Nat.eq_zero_or_pos i with h0|h0
    ·subst h0
     cases within f.svs[0].spare 0 60<;>simp
    ·have hi1:i-1<f.svs.length:=by omega
     have hw:w64 ((i:Int)-1)=((i-1:Nat):Int):=by rw[w64_of (by omega) (by simp only[big] at hl;omega)];omega
     have e1:((i:Int)>0):=by omega
     have e2:(((i-1:Nat):Int)<(f.svs.length:Int)):=by omega
     have e4:(i==0)=false:=by simp;omega
     simp only[hw,jY,getD_map' Sv.e hi1,e1,e2,e4,decide_true,jR,jX,List.getElem?_eq_getElem hi1,Bool.false_or,jZ,ja,Bool.true_and]
     simp only[Sv.e,jC,C.S_s]
     show (bif (!(!sLt f.svs[i-1].name f.svs[i].name)) then _ else _)=_
     cases sLt f.svs[i-1].name f.svs[i].name<;>cases within f.svs[i].spare 0 60<;>simp)
  (by simp[s_PilotValid.d1,Fl.e]) f.svs.length 0 rfl
 simp only[Int.natCast_zero] at h
 rw[h]
 cases allFrom (svA f) 0 f.svs.length<;>simp
theorem s_V2 (hn:∀s,s∈f.svs→nameOk s.name=true) (K:List C→R):bindBlk 2 (lim (ap5 s_PilotValid.d3) ([.i 0]++f.e)) K=bif allFrom (cpA f) 0 f.cps.length then K f.e else some (.ret [.b false]):=by
 have hl:f.cps.length<big:=by have:=hz.2.2.1;simp only[big];omega
 have h:=chk_loop (body:=ap5 s_PilotValid.d3) (S:=fun i=>[.i (i:Nat)]++f.e) (p:=cpA f) (n:=f.cps.length) (b:=2) (ys:=f.e) (r:=[.b false])
  (fun i hi=>by
   have hsz:=hz.2.2.2 _ (List.getElem_mem hi)
   have e3:((i:Int)<(f.cps.length:Int)):=by omega
   have hp:cpA f i=(copyOk f.cps[i]&&(f.svs.any (fun s=>sEq s.name f.cps[i].svc)&&((i==0||match f.cps[i-1]? with|some q=>sLt q.name f.cps[i].name|none=>true)&&(sEq f.cps[i].at_ (mkS [])||f.bts.any (fun b=>sEq b.name f.cps[i].at_))))):=by simp[cpA,hi]
   have hsv:=s_l2Service_eq f f.cps[i].svc hz.2.1.1
   have hbt:=s_l2Berth_eq f f.cps[i].at_ hz.1.1
   have hco:=s_l2CopyOk_eq f.cps[i] hsz
   have q1:(f.cps[i].at_.toList==(bs #[]).toList)=sEq f.cps[i].at_ (mkS []):=rfl
   have hs1:decide (sIx f f.cps[i].svc<0)=!f.svs.any (fun s=>sEq s.name f.cps[i].svc):=findIx_any _ _ _
   have hb1:decide (bIx f f.cps[i].at_<0)=!f.bts.any (fun b=>sEq b.name f.cps[i].at_):=findIx_any _ _ _
   have hany:f.svs.any (fun s=>sEq s.name f.cps[i].svc)=true→nameOk f.cps[i].svc=true:=fun h=>by
    obtain ⟨s,h1,h2⟩:=List.any_eq_true.1 h
    rw[←(sEq_iff _ _).1 h2];exact hn s h1
   simp only[Fl.e,jA,jB] at hsv hbt
   simp only[Cp.e] at hco
   simp only[Fl.e,jA,jB,apL,jC,jD,s_PilotValid.d3,C.I_i,C.L_l,jW,jY,getD_map' Cp.e hi,e3,decide_true,jR,jX,hp]
   simp only[Cp.e,jC,jD,hco,hsv,hbt,call1,jI,C.B_b,C.S_s,C.I_i,q1,hs1,hb1]
   have hd2:∀b:Bool,s_PilotValid.d2 (.i (i:Nat)) (.b b) (.b f.pack) (.l (f.bts.map Bt.e)) (.l (f.svs.map Sv.e)) (.l (f.cps.map Cp.e))=bif b then some (.ret [.b false]) else some (.again [.i (i+1:Nat),.b f.pack,.l (f.bts.map Bt.e),.l (f.svs.map Sv.e),.l (f.cps.map Cp.e)]):=fun b=>by
    simp only[s_PilotValid.d2,C.B_b,C.I_i,w1 hi hl]
   cases hany2:f.svs.any (fun s=>sEq s.name f.cps[i].svc) with
   |false=>
    have:∀a b:Bool,(a&&(false&&b))=false:=by decide
    rw[this]
    cases nameOk f.cps[i].svc&&copyOk f.cps[i] with
    |false=>simp[hd2]
    |true=>
     rcases Nat.eq_zero_or_pos i with h0|h0
     ·subst h0
      simp only[Int.natCast_zero] at hd2
      simp[hd2]
     ·have hi1:i-1<f.cps.length:=by omega
      have hw:w64 ((i:Int)-1)=((i-1:Nat):Int):=by rw[w64_of (by omega) (by simp only[big] at hl;omega)];omega
      have e1:((i:Int)>0):=by omega
      have e2:(((i-1:Nat):Int)<(f.cps.length:Int)):=by omega
      simp only[hw,jY,getD_map' Cp.e hi1,e1,e2,decide_true,jR,jX,jZ,ja,jS]
      cases (Op.bytesLess ((f.cps[i-1].e.getD 0 .nil).S).toList (f.cps[i].name).toList)<;>simp[hd2]
   |true=>
    rw[hany hany2,Bool.true_and,Bool.true_and]
    cases copyOk f.cps[i] with
    |false=>simp[hd2]
    |true=>
     rcases Nat.eq_zero_or_pos i with h0|h0
     ·subst h0
      simp only[Int.natCast_zero] at hd2
      cases sEq f.cps[0].at_ (mkS [])<;>cases f.bts.any (fun b=>sEq b.name f.cps[0].at_)<;>simp[hd2]
     ·have hi1:i-1<f.cps.length:=by omega
      have hw:w64 ((i:Int)-1)=((i-1:Nat):Int):=by rw[w64_of (by omega) (by simp only[big] at hl;omega)];omega
      have e1:((i:Int)>0):=by omega
      have e2:(((i-1:Nat):Int)<(f.cps.length:Int)):=by omega
      have e4:(i==0)=false:=by simp;omega
      simp only[hw,jY,getD_map' Cp.e hi1,e1,e2,e4,decide_true,jR,jX,List.getElem?_eq_getElem hi1,Bool.false_or,jZ,ja,jS,Bool.true_and]
      have hn0:(f.cps[i-1].e.getD 0 .nil).S=f.cps[i-1].name:=rfl
      rw[hn0]
      show bindNrm (bif (!(!sLt f.cps[i-1].name f.cps[i].name)) then _ else _) _=_
      cases sLt f.cps[i-1].name f.cps[i].name<;>cases sEq f.cps[i].at_ (mkS [])<;>cases f.bts.any (fun b=>sEq b.name f.cps[i].at_)<;>simp[hd2])
  (by simp[s_PilotValid.d3,Fl.e]) f.cps.length 0 rfl
 simp only[Int.natCast_zero] at h
 rw[h]
 cases allFrom (cpA f) 0 f.cps.length<;>simp
theorem s_V3 (K:List C→R):bindBlk 4 (lim (ap5 s_PilotValid.d4) ([.i 0]++f.e)) K=bif allFrom (fun i=>btA f i&&fitA f i) 0 f.bts.length then K [] else some (.ret [.b false]):=by
 have hl:f.bts.length<big:=by have:=hz.1.1;simp only[big];omega
 have h:=chk_loop (body:=ap5 s_PilotValid.d4) (S:=fun i=>[.i (i:Nat)]++f.e) (p:=fun i=>btA f i&&fitA f i) (n:=f.bts.length) (b:=4) (ys:=[]) (r:=[.b false])
  (fun i hi=>by
   have hsz:=hz.1.2 _ (List.getElem_mem hi)
   have e3:((i:Int)<(f.bts.length:Int)):=by omega
   have hp:btA f i=(berthOk f.bts[i]&&(i==0||match f.bts[i-1]? with|some q=>sLt q.name f.bts[i].name|none=>true)):=by simp[btA,hi]
   have hq:fitA f i=(decide ((used f f.bts[i].name).1≤f.bts[i].room)&&(decide ((used f f.bts[i].name).2≤f.bts[i].hold)&&decide (standC f.cps f.bts[i].name f.cps.length≤10))):=by simp[fitA,hi]
   have hu:=s_PilotUsed_eq f f.bts[i].name hz
   have hs:=s_l2Stand_eq f f.bts[i].name hz
   have hb:=s_l2BerthOk_eq f.bts[i] hsz
   have g1:decide ((used f f.bts[i].name).1>f.bts[i].room)=!decide ((used f f.bts[i].name).1≤f.bts[i].room):=by rw[←decide_not,decide_eq_decide];omega
   have g2:decide ((used f f.bts[i].name).2>f.bts[i].hold)=!decide ((used f f.bts[i].name).2≤f.bts[i].hold):=by rw[←decide_not,decide_eq_decide];omega
   have g3:decide ((standC f.cps f.bts[i].name f.cps.length:Int)>10)=!decide (standC f.cps f.bts[i].name f.cps.length≤10):=by rw[←decide_not,decide_eq_decide];omega
   simp only[Fl.e,jA,jB] at hu hs
   simp only[Bt.e] at hb
   simp only[Fl.e,jA,jB,apL,jC,jD,s_PilotValid.d4,C.I_i,C.L_l,jW,jY,getD_map' Bt.e hi,e3,decide_true,jR,jX,w1 hi hl]
   simp only[Bt.e,jC,jD,hu,hs,hb,call1,call2,jI,C.B_b,C.S_s,C.I_i,g1,g2,g3,hp,hq,Bool.not_not]
   cases berthOk f.bts[i] with
   |false=>simp
   |true=>
    rcases Nat.eq_zero_or_pos i with h0|h0
    ·subst h0
     cases decide ((used f f.bts[0].name).1≤f.bts[0].room)<;>cases decide ((used f f.bts[0].name).2≤f.bts[0].hold)<;>cases decide (standC f.cps f.bts[0].name f.cps.length≤10)<;>simp
    ·have hi1:i-1<f.bts.length:=by omega
     have hw:w64 ((i:Int)-1)=((i-1:Nat):Int):=by rw[w64_of (by omega) (by simp only[big] at hl;omega)];omega
     have e1:((i:Int)>0):=by omega
     have e2:(((i-1:Nat):Int)<(f.bts.length:Int)):=by omega
     have e4:(i==0)=false:=by simp;omega
     simp only[hw,jY,getD_map' Bt.e hi1,e1,e2,e4,decide_true,jR,jX,List.getElem?_eq_getElem hi1,Bool.false_or,jZ,ja,jS,Bool.true_and]
     have hn0:(f.bts[i-1].e.getD 0 .nil).S=f.bts[i-1].name:=rfl
     rw[hn0]
     show (bif sLt f.bts[i-1].name f.bts[i].name then _ else _)=_
     cases sLt f.bts[i-1].name f.bts[i].name<;>cases decide ((used f f.bts[i].name).1≤f.bts[i].room)<;>cases decide ((used f f.bts[i].name).2≤f.bts[i].hold)<;>cases decide (standC f.cps f.bts[i].name f.cps.length≤10)<;>simp)
  (by simp[s_PilotValid.d4,Fl.e]) f.bts.length 0 rfl
 simp only[Int.natCast_zero] at h
 rw[h]
 cases allFrom (fun i=>btA f i&&fitA f i) 0 f.bts.length<;>simp
omit hz in
theorem svs_names (h:allFrom (svA f) 0 f.svs.length=true):∀s,s∈f.svs→nameOk s.name=true:=by
 intro s hs
 obtain ⟨i,hi,rfl⟩:=List.getElem_of_mem hs
 have:=(allFrom_iff _ _ _).1 h i (Nat.zero_le _) (by omega)
 simp only[svA,List.getElem?_eq_getElem hi,Bool.and_eq_true] at this
 exact this.1
omit hz in
theorem allFrom_and (p q:Nat→Bool):∀k i,allFrom (fun i=>p i&&q i) i k=(allFrom p i k&&allFrom q i k)
 |0,i=>rfl
 |k+1,i=>by
  simp only[allFrom,allFrom_and p q k (i+1)]
  cases p i<;>cases q i<;>cases allFrom p (i+1) k<;>simp
theorem s_PilotValid_eq:s_PilotValid f.e=some [.b (validF f)]:=by
 have h1:=s_V1 hz (ap4 s_PilotValid.d7)
 have h3:=s_V3 hz (fun xs=>s_PilotValid.d5)
 simp only[Fl.e,jA,jB] at h1 h3
 have g1:decide ((f.bts.length:Int)>12)=!decide (f.bts.length≤12):=by rw[←decide_not,decide_eq_decide];omega
 have g2:decide ((f.svs.length:Int)>30)=!decide (f.svs.length≤30):=by rw[←decide_not,decide_eq_decide];omega
 have g3:decide ((f.cps.length:Int)>60)=!decide (f.cps.length≤60):=by rw[←decide_not,decide_eq_decide];omega
 simp only[s_PilotValid,s_PilotValid.d8,Fl.e,apL,jC,jD,C.L_l,jW,g1,g2,g3,Bool.not_not,h1,validF]
 cases decide (f.bts.length≤12) with
 |false=>simp
 |true=>
 cases decide (f.svs.length≤30) with
 |false=>simp
 |true=>
 cases decide (f.cps.length≤60) with
 |false=>simp
 |true=>
 cases hs:allFrom (svA f) 0 f.svs.length with
 |false=>simp
 |true=>
  have h2:=s_V2 hz (svs_names hs) (ap4 s_PilotValid.d6)
  simp only[Fl.e,jA,jB] at h2
  simp only[jR,jZ,jS,Bool.true_and,s_PilotValid.d7,apL,jC,jD,h2]
  cases allFrom (cpA f) 0 f.cps.length with
  |false=>simp
  |true=>
   simp only[jR,Bool.true_and,s_PilotValid.d6,apL,jC,jD,h3,allFrom_and]
   cases allFrom (btA f) 0 f.bts.length<;>cases allFrom (fitA f) 0 f.bts.length<;>simp[s_PilotValid.d5]
end
end Go.Ev
namespace Go.Ev
def mapS (l:List Sv):Nat→List (List C)
 |0=>[]
 |i+1=>match l[i]? with
  |some s=>mset s.name (.b true) (mapS l i)
  |none=>mapS l i
theorem mapS_get (l:List Sv) (nm:Str):∀i,i≤l.length→(mget (.b false) nm (mapS l i)).B=(l.take i).any (fun s=>sEq s.name nm)
 |0,_=>rfl
 |i+1,h=>by
  have hi:i<l.length:=h
  rw[mapS,List.getElem?_eq_getElem hi]
  simp only
  rw[mget_mset,List.take_succ_eq_append_getElem hi,List.any_append,sEq_comm]
  have ih:=mapS_get l nm i (by omega)
  cases hq:sEq l[i].name nm with
  |true=>simp[hq]
  |false=>simp[hq,ih]
def mapC (l:List Cp):Nat→List (List C)
 |0=>[]
 |i+1=>match l[i]? with
  |some c=>mset c.at_ (.i (w64 ((mget (.i 0) c.at_ (mapC l i)).I+1))) (mapC l i)
  |none=>mapC l i
theorem mapC_get (l:List Cp) (hl:l.length<big) (nm:Str):∀i,i≤l.length→mget (.i 0) nm (mapC l i)=.i (standC l nm i:Nat)
 |0,_=>rfl
 |i+1,h=>by
  have hi:i<l.length:=h
  have ih:=mapC_get l hl nm i (by omega)
  have ih2:=mapC_get l hl l[i].at_ i (by omega)
  rw[mapC,standC,List.getElem?_eq_getElem hi]
  simp only
  rw[mget_mset,ih,ih2,sEq_comm]
  have hw:=w64n (n:=standC l l[i].at_ i) (by have:=standC_le l l[i].at_ i;omega)
  cases hq:sEq l[i].at_ nm with
  |true=>
   have:=(sEq_iff _ _).1 hq
   subst this
   simp only[jR,C.I_i,hw]
  |false=>rfl
section
variable {f:Fl} (hz:f.Sz 1048576)
include hz
theorem i_V1 (K:List C→R):bindBlk 0 (lim (ap7 i_PilotValid.d1) ([.l (f.bts.map Bt.e),.i (f.bts.length:Nat),.i 0]++f.e)) K=bif allFrom (btA f) 0 f.bts.length then K f.e else some (.ret [.b false]):=by
 have hl:f.bts.length<big:=by have:=hz.1.1;simp only[big];omega
 have h:=chk_loop (body:=ap7 i_PilotValid.d1) (S:=fun i=>[.l (f.bts.map Bt.e),.i (f.bts.length:Nat),.i (i:Nat)]++f.e) (p:=btA f) (n:=f.bts.length) (b:=0) (ys:=f.e) (r:=[.b false])
  (fun i hi=>by
   have hsz:=hz.1.2 _ (List.getElem_mem hi)
   have e3:((i:Int)<(f.bts.length:Int)):=by omega
   have hp:btA f i=(berthOk f.bts[i]&&(i==0||match f.bts[i-1]? with|some q=>sLt q.name f.bts[i].name|none=>true)):=by simp only[btA,List.getElem?_eq_getElem hi]<;>rfl
   have hb:=i_pBerthOk_eq f.bts[i] hsz
   simp only[Bt.e] at hb
   simp only[Fl.e,jA,jB,apL,jC,jD,i_PilotValid.d1,C.I_i,C.L_l,jW,jY,getD_map' Bt.e hi,e3,decide_true,jR,jX,w1 hi hl]
   simp only[Bt.e,jC,jD,hb,call1,jI,C.B_b,C.S_s,hp]
   cases berthOk f.bts[i] with
   |false=>simp
   |true=>
    rcases Nat.eq_zero_or_pos i with h0|h0
    ·subst h0;simp
    ·have hi1:i-1<f.bts.length:=by omega
     have hw:w64 ((i:Int)-1)=((i-1:Nat):Int):=by rw[w64_of (by omega) (by simp only[big] at hl;omega)];omega
     have e1:((i:Int)>0):=by omega
     have e2:(((i-1:Nat):Int)<(f.bts.length:Int)):=by omega
     have e4:(i==0)=false:=by simp;omega
     have hn0:(f.bts[i-1].e.getD 0 .nil).S=f.bts[i-1].name:=rfl
     simp only[hw,jY,getD_map' Bt.e hi1,e1,e2,e4,decide_true,jR,jX,List.getElem?_eq_getElem hi1,Bool.false_or,jZ,ja,jS,Bool.true_and,hn0,prev_not]
     cases sLt f.bts[i-1].name f.bts[i].name<;>simp)
  (by simp[i_PilotValid.d1,Fl.e]) f.bts.length 0 rfl
 simp only[Int.natCast_zero] at h
 rw[h]
 cases allFrom (btA f) 0 f.bts.length<;>simp
theorem i_V2 (K:List C→R):bindBlk 2 (lim (ap8 i_PilotValid.d2) ([.l (f.svs.map Sv.e),.i (f.svs.length:Nat),.i 0]++f.e++[.l []])) K=bif allFrom (svA f) 0 f.svs.length then K (f.e++[.l (mapS f.svs f.svs.length)]) else some (.ret [.b false]):=by
 have hl:f.svs.length<big:=by have:=hz.2.1.1;simp only[big];omega
 have h:=chk_loop (body:=ap8 i_PilotValid.d2) (S:=fun i=>[.l (f.svs.map Sv.e),.i (f.svs.length:Nat),.i (i:Nat)]++f.e++[.l (mapS f.svs i)]) (p:=svA f) (n:=f.svs.length) (b:=2) (ys:=f.e++[.l (mapS f.svs f.svs.length)]) (r:=[.b false])
  (fun i hi=>by
   have hsz:=hz.2.1.2 _ (List.getElem_mem hi)
   have e3:((i:Int)<(f.svs.length:Int)):=by omega
   have hp:svA f i=(nameOk f.svs[i].name&&((i==0||match f.svs[i-1]? with|some q=>sLt q.name f.svs[i].name|none=>true)&&within f.svs[i].spare 0 60)):=by simp only[svA,List.getElem?_eq_getElem hi]<;>rfl
   simp only[Fl.e,jA,jB,apL,jC,jD,i_PilotValid.d2,C.I_i,C.L_l,jW,jY,getD_map' Sv.e hi,w1 hi hl,e3,decide_true,jR,jX,hp,mapS,List.getElem?_eq_getElem hi]
   simp only[Sv.e,jC,jD,i_pName_eq _ hsz,i_within_eq,call1,jI,C.B_b,C.S_s]
   cases hn:nameOk f.svs[i].name with
   |false=>simp
   |true=>
    cases within f.svs[i].spare 0 60 with
    |false=>simp
    |true=>
     rcases Nat.eq_zero_or_pos i with h0|h0
     ·subst h0;simp
     ·have hi1:i-1<f.svs.length:=by omega
      have hw:w64 ((i:Int)-1)=((i-1:Nat):Int):=by rw[w64_of (by omega) (by simp only[big] at hl;omega)];omega
      have e1:((i:Int)>0):=by omega
      have e2:(((i-1:Nat):Int)<(f.svs.length:Int)):=by omega
      have e4:(i==0)=false:=by simp;omega
      have hn0:(f.svs[i-1].e.getD 0 .nil).S=f.svs[i-1].name:=rfl
      simp only[hw,jY,getD_map' Sv.e hi1,e1,e2,e4,decide_true,jR,jX,List.getElem?_eq_getElem hi1,Bool.false_or,jZ,ja,jS,Bool.true_and,hn0,prev_not]
      cases sLt f.svs[i-1].name f.svs[i].name<;>simp)
  (by simp[i_PilotValid.d2,Fl.e]) f.svs.length 0 rfl
 simp only[Int.natCast_zero,mapS] at h
 rw[h]
 cases allFrom (svA f) 0 f.svs.length<;>simp
theorem i_V3 (K:List C→R):bindBlk 4 (lim (ap9 i_PilotValid.d4) ([.l (f.cps.map Cp.e),.i (f.cps.length:Nat),.i 0]++f.e++[.l (mapS f.svs f.svs.length),.l []])) K=bif allFrom (cpA f) 0 f.cps.length then K (f.e++[.l (mapC f.cps f.cps.length)]) else some (.ret [.b false]):=by
 have hl:f.cps.length<big:=by have:=hz.2.2.1;simp only[big];omega
 have h:=chk_loop (body:=ap9 i_PilotValid.d4) (S:=fun i=>[.l (f.cps.map Cp.e),.i (f.cps.length:Nat),.i (i:Nat)]++f.e++[.l (mapS f.svs f.svs.length),.l (mapC f.cps i)]) (p:=cpA f) (n:=f.cps.length) (b:=4) (ys:=f.e++[.l (mapC f.cps f.cps.length)]) (r:=[.b false])
  (fun i hi=>by
   have hsz:=hz.2.2.2 _ (List.getElem_mem hi)
   have e3:((i:Int)<(f.cps.length:Int)):=by omega
   have hp:cpA f i=(copyOk f.cps[i]&&(f.svs.any (fun s=>sEq s.name f.cps[i].svc)&&((i==0||match f.cps[i-1]? with|some q=>sLt q.name f.cps[i].name|none=>true)&&(sEq f.cps[i].at_ (mkS [])||f.bts.any (fun b=>sEq b.name f.cps[i].at_))))):=by simp only[cpA,List.getElem?_eq_getElem hi]<;>rfl
   have hbt:=i_pBerthAt_eq f f.cps[i].at_ hz.1.1
   have hco:=i_pCopyOk_eq f.cps[i] hsz
   have q1:(f.cps[i].at_.toList==(bs #[]).toList)=sEq f.cps[i].at_ (mkS []):=rfl
   have hb1:decide (bIx f f.cps[i].at_<0)=!f.bts.any (fun b=>sEq b.name f.cps[i].at_):=findIx_any _ _ _
   have hsm:=mapS_get f.svs f.cps[i].svc f.svs.length (Nat.le_refl _)
   rw[List.take_length] at hsm
   simp only[Fl.e,jA,jB] at hbt
   simp only[Cp.e] at hco
   simp only[Fl.e,jA,jB,apL,jC,jD,i_PilotValid.d4,C.I_i,C.L_l,jW,jY,getD_map' Cp.e hi,e3,decide_true,jR,jX,hp]
   simp only[Cp.e,jC,jD,hco,hbt,call1,jI,C.B_b,C.S_s,C.I_i,q1,hb1,hsm]
   have hd3:∀(b:Bool),i_PilotValid.d3 (.l (f.cps.map Cp.e)) (.i (f.cps.length:Nat)) (.i (i:Nat)) (.b b) (.b f.pack) (.l (f.bts.map Bt.e)) (.l (f.svs.map Sv.e)) (.l (f.cps.map Cp.e)) (.l (mapS f.svs f.svs.length)) (.l (mapC f.cps i)) (.s f.cps[i].name) (.s f.cps[i].svc) (.i f.cps[i].rank) (.i f.cps[i].born) (.i f.cps[i].room) (.i f.cps[i].hold) (.s f.cps[i].sel) (.l (f.cps[i].likes.map Lk.e)) (.i f.cps[i].apart) (.s f.cps[i].near) (.s f.cps[i].fixed) (.s f.cps[i].at_)=bif b then some (.ret [.b false]) else some (.again [.l (f.cps.map Cp.e),.i (f.cps.length:Nat),.i (i+1:Nat),.b f.pack,.l (f.bts.map Bt.e),.l (f.svs.map Sv.e),.l (f.cps.map Cp.e),.l (mapS f.svs f.svs.length),.l (mapC f.cps (i+1))]):=fun b=>by
    simp only[i_PilotValid.d3,C.B_b,C.I_i,C.L_l,C.S_s,w1 hi hl,mapC,List.getElem?_eq_getElem hi]
   cases copyOk f.cps[i] with
   |false=>simp[hd3]
   |true=>
    cases f.svs.any (fun s=>sEq s.name f.cps[i].svc) with
    |false=>simp[hd3]
    |true=>
     rcases Nat.eq_zero_or_pos i with h0|h0
     ·subst h0
      simp only[Int.natCast_zero] at hd3
      cases sEq f.cps[0].at_ (mkS [])<;>cases f.bts.any (fun b=>sEq b.name f.cps[0].at_)<;>simp[hd3]
     ·have hi1:i-1<f.cps.length:=by omega
      have hw:w64 ((i:Int)-1)=((i-1:Nat):Int):=by rw[w64_of (by omega) (by simp only[big] at hl;omega)];omega
      have e1:((i:Int)>0):=by omega
      have e2:(((i-1:Nat):Int)<(f.cps.length:Int)):=by omega
      have e4:(i==0)=false:=by simp;omega
      have hn0:(f.cps[i-1].e.getD 0 .nil).S=f.cps[i-1].name:=rfl
      simp only[hw,jY,getD_map' Cp.e hi1,e1,e2,e4,decide_true,jR,jX,List.getElem?_eq_getElem hi1,Bool.false_or,jZ,ja,jS,Bool.true_and,hn0,prev_not]
      cases sLt f.cps[i-1].name f.cps[i].name<;>cases sEq f.cps[i].at_ (mkS [])<;>cases f.bts.any (fun b=>sEq b.name f.cps[i].at_)<;>simp[hd3])
  (by simp[i_PilotValid.d4,Fl.e]) f.cps.length 0 rfl
 simp only[Int.natCast_zero,mapC] at h
 rw[h]
 cases allFrom (cpA f) 0 f.cps.length<;>simp
theorem i_V4 (K:List C→R):bindBlk 6 (lim (ap8 i_PilotValid.d5) ([.l (f.bts.map Bt.e),.i (f.bts.length:Nat),.i 0]++f.e++[.l (mapC f.cps f.cps.length)])) K=bif allFrom (fitA f) 0 f.bts.length then K [] else some (.ret [.b false]):=by
 have hl:f.bts.length<big:=by have:=hz.1.1;simp only[big];omega
 have hlc:f.cps.length<big:=by have:=hz.2.2.1;simp only[big];omega
 have h:=chk_loop (body:=ap8 i_PilotValid.d5) (S:=fun i=>[.l (f.bts.map Bt.e),.i (f.bts.length:Nat),.i (i:Nat)]++f.e++[.l (mapC f.cps f.cps.length)]) (p:=fitA f) (n:=f.bts.length) (b:=6) (ys:=[]) (r:=[.b false])
  (fun i hi=>by
   have e3:((i:Int)<(f.bts.length:Int)):=by omega
   have hq:fitA f i=(decide ((used f f.bts[i].name).1≤f.bts[i].room)&&(decide ((used f f.bts[i].name).2≤f.bts[i].hold)&&decide (standC f.cps f.bts[i].name f.cps.length≤10))):=by simp[fitA,hi]
   have hu:=i_PilotUsed_eq f f.bts[i].name hz
   have hmc:=mapC_get f.cps hlc f.bts[i].name f.cps.length (Nat.le_refl _)
   have g1:decide ((used f f.bts[i].name).1>f.bts[i].room)=!decide ((used f f.bts[i].name).1≤f.bts[i].room):=by rw[←decide_not,decide_eq_decide];omega
   have g2:decide ((used f f.bts[i].name).2>f.bts[i].hold)=!decide ((used f f.bts[i].name).2≤f.bts[i].hold):=by rw[←decide_not,decide_eq_decide];omega
   have g3:decide ((standC f.cps f.bts[i].name f.cps.length:Int)>10)=!decide (standC f.cps f.bts[i].name f.cps.length≤10):=by rw[←decide_not,decide_eq_decide];omega
   simp only[Fl.e,jA,jB] at hu
   simp only[Fl.e,jA,jB,apL,jC,jD,i_PilotValid.d5,C.I_i,C.L_l,jW,jY,getD_map' Bt.e hi,e3,decide_true,jR,jX,w1 hi hl]
   simp only[Bt.e,jC,jD,hu,call2,jI,C.S_s,C.I_i,hmc,g1,g2,g3,hq,Bool.not_not]
   cases decide ((used f f.bts[i].name).1≤f.bts[i].room)<;>cases decide ((used f f.bts[i].name).2≤f.bts[i].hold)<;>cases decide (standC f.cps f.bts[i].name f.cps.length≤10)<;>simp)
  (by simp[i_PilotValid.d5,Fl.e]) f.bts.length 0 rfl
 simp only[Int.natCast_zero] at h
 rw[h]
 cases allFrom (fitA f) 0 f.bts.length<;>simp
theorem i_PilotValid_eq:i_PilotValid f.e=some [.b (validF f)]:=by
 have h1:=i_V1 hz (ap4 i_PilotValid.d9)
 have h2:=i_V2 hz (ap5 i_PilotValid.d8)
 have h3:=i_V3 hz (ap5 i_PilotValid.d7)
 have h4:=i_V4 hz (fun xs=>i_PilotValid.d6)
 simp only[Fl.e,jA,jB] at h1 h2 h3 h4
 have g1:decide ((f.bts.length:Int)>12)=!decide (f.bts.length≤12):=by rw[←decide_not,decide_eq_decide];omega
 have g2:decide ((f.svs.length:Int)>30)=!decide (f.svs.length≤30):=by rw[←decide_not,decide_eq_decide];omega
 have g3:decide ((f.cps.length:Int)>60)=!decide (f.cps.length≤60):=by rw[←decide_not,decide_eq_decide];omega
 simp only[i_PilotValid,i_PilotValid.d10,Fl.e,apL,jC,jD,C.L_l,jW,g1,g2,g3,Bool.not_not,h1,validF]
 cases decide (f.bts.length≤12) with
 |false=>simp
 |true=>
 cases decide (f.svs.length≤30) with
 |false=>simp
 |true=>
 cases decide (f.cps.length≤60) with
 |false=>simp
 |true=>
 cases hb:allFrom (btA f) 0 f.bts.length with
 |false=>simp
 |true=>
 simp only[jR,jZ,jS,Bool.true_and,i_PilotValid.d9,apL,jC,jD,C.L_l,jW,nils,h2]
 cases hs:allFrom (svA f) 0 f.svs.length with
 |false=>simp
 |true=>
 simp only[jR,Bool.true_and,i_PilotValid.d8,apL,jC,jD,C.L_l,jW,nils,h3]
 cases hc:allFrom (cpA f) 0 f.cps.length with
 |false=>simp
 |true=>
 simp only[jR,Bool.true_and,i_PilotValid.d7,apL,jC,jD,C.L_l,jW,h4]
 cases allFrom (fitA f) 0 f.bts.length<;>simp[i_PilotValid.d6]
end
end Go.Ev
namespace Go.Ev
theorem findIx_at {α:Type} (p:α→Bool):∀(l:List α) (n:Nat),findIx p l n<0∨∃i,∃h:i<l.length,findIx p l n=((n+i:Nat):Int)∧p l[i]=true
 |[],n=>.inl (by simp[findIx])
 |x::r,n=>by
  cases hx:p x with
  |true=>exact .inr ⟨0,by simp,by simp[findIx,hx],by simpa using hx⟩
  |false=>
   rcases findIx_at p r (n+1) with h|⟨i,h,h1,h2⟩
   ·exact .inl (by simpa [findIx,hx] using h)
   ·exact .inr ⟨i+1,by simpa using h,by simp[findIx,hx,h1];omega,by simpa using h2⟩
section
variable {f:Fl} {g:List Str} (hz:f.Sz 1048576) (hg:SsSz 1048576 g)
include hz hg
omit hz in
end
end Go.Ev
namespace Go.Ev
def markM (k:Nat) (n v:Tok) (m:Str):Bool:=mkOk m&&(sEq (mkNm m) (mkS n)&&(k==1||sEq (mkVal m) (mkS v)))
def Tr.meets (ms:List Str):Tr→Bool
 |.lf k n v=>k==0||ms.any (markM k n v)
 |.un t=>!t.meets ms
 |.bn k a b=>bif k==4 then a.meets ms&&b.meets ms else a.meets ms||b.meets ms
def Tr.Ok (t:Tr):Prop:=t.Wf∨t=.lf 0 [] []
theorem any_from (q:Nat→Bool):∀(k i:Nat),(!allFrom (fun j=>!q j) i k)=true↔∃j,i≤j∧j<i+k∧q j=true:=by
 intro k i
 rw[Bool.not_eq_true',←Bool.not_eq_true,allFrom_iff]
 constructor
 ·intro h
  apply Classical.byContradiction
  intro hn
  exact h fun j h1 h2=>by
   cases hq:q j with
   |false=>rfl
   |true=>exact absurd ⟨j,h1,h2,hq⟩ hn
 ·rintro ⟨j,h1,h2,h3⟩ h
  have:=h j h1 h2
  rw[h3] at this;simp at this
theorem any_list (p:Str→Bool) (ms:List Str):allFrom (fun j=>!p (sAt ms j)) 0 ms.length=!ms.any p:=by
 rw[←Bool.not_not (b:=allFrom _ _ _)]
 congr 1
 rw[Bool.eq_iff_iff,any_from,List.any_eq_true]
 constructor
 ·rintro ⟨j,_,h1,h2⟩
  have hj:j<ms.length:=by omega
  rw[sAt_get hj] at h2
  exact ⟨_,List.getElem_mem hj,h2⟩
 ·rintro ⟨x,hx,h⟩
  obtain ⟨j,hj,rfl⟩:=List.getElem_of_mem hx
  exact ⟨j,Nat.zero_le _,by omega,by rw[sAt_get hj];exact h⟩
section
variable {ms:List Str} (hz:SsSz 1048576 ms)
include hz
theorem s_leaf (G:List C→Option (List C)) (k:Nat) (n v:Tok) (c:C) (K:List C→R):bindBlk 1 (lim (ap6 (s_l1Meets.d2 G)) [.l (ms.map sE),.i 0,.i (k:Nat),.s (mkS n),.s (mkS v),c]) K=bif ms.any (markM k n v) then some (.ret [.b true]) else K []:=by
 have hl:ms.length<big:=by have:=hz.1;simp only[big];omega
 have h:=chk_loop (body:=ap6 (s_l1Meets.d2 G)) (S:=fun i=>[.l (ms.map sE),.i (i:Nat),.i (k:Nat),.s (mkS n),.s (mkS v),c]) (p:=fun j=>!markM k n v (sAt ms j)) (n:=ms.length) (b:=1) (ys:=[]) (r:=[.b true])
  (fun i hi=>by
   have hsz:(sAt ms i).size≤1048576:=by rw[sAt_get hi];exact hz.2 _ (List.getElem_mem hi)
   have e3:((i:Int)<(ms.length:Int)):=by omega
   have q1:((mkNm (sAt ms i)).toList==(mkS n).toList)=sEq (mkNm (sAt ms i)) (mkS n):=rfl
   have q2:((mkVal (sAt ms i)).toList==(mkS v).toList)=sEq (mkVal (sAt ms i)) (mkS v):=rfl
   have q3:(((k:Nat):Int)==1)=(k==1):=by rw[Bool.eq_iff_iff,beq_iff_eq,beq_iff_eq];omega
   simp only[apL,jC,jD,s_l1Meets.d2,s_l1Meets.d1,C.I_i,C.L_l,jW,jY,getD_map' sE hi,←sAt_get hi,w1 hi hl,e3,decide_true,jR,jX]
   simp only[sE,jC,s_l1Mark_eq _ hsz,call3,jI,C.S_s,jD,C.B_b,q1,q2,q3,markM]
   cases mkOk (sAt ms i)<;>cases sEq (mkNm (sAt ms i)) (mkS n)<;>cases k==1<;>cases sEq (mkVal (sAt ms i)) (mkS v)<;>simp[s_l1Meets.d1,w1 hi hl])
  (by simp[s_l1Meets.d2]) ms.length 0 rfl
 simp only[Int.natCast_zero,any_list] at h
 rw[h]
 cases ms.any (markM k n v)<;>simp
theorem i_leaf (G:List C→Option (List C)) (k:Nat) (n v:Tok) (l:C) (K:List C→R):bindBlk 1 (lim (ap4 (i_pSel_meets.d2 G)) [.p [.i (k:Nat),.s (mkS n),.s (mkS v),l],.l (ms.map sE),.i (ms.length:Nat),.i 0]) K=bif ms.any (markM k n v) then some (.ret [.b true]) else K []:=by
 have hl:ms.length<big:=by have:=hz.1;simp only[big];omega
 have h:=chk_loop (body:=ap4 (i_pSel_meets.d2 G)) (S:=fun i=>[.p [.i (k:Nat),.s (mkS n),.s (mkS v),l],.l (ms.map sE),.i (ms.length:Nat),.i (i:Nat)]) (p:=fun j=>!markM k n v (sAt ms j)) (n:=ms.length) (b:=1) (ys:=[]) (r:=[.b true])
  (fun i hi=>by
   have hsz:(sAt ms i).size≤1048576:=by rw[sAt_get hi];exact hz.2 _ (List.getElem_mem hi)
   have e3:((i:Int)<(ms.length:Int)):=by omega
   have q1:((mkNm (sAt ms i)).toList==(mkS n).toList)=sEq (mkNm (sAt ms i)) (mkS n):=rfl
   have q2:((mkVal (sAt ms i)).toList==(mkS v).toList)=sEq (mkVal (sAt ms i)) (mkS v):=rfl
   have q3:(((k:Nat):Int)==1)=(k==1):=by rw[Bool.eq_iff_iff,beq_iff_eq,beq_iff_eq];omega
   simp only[apL,jC,jD,i_pSel_meets.d2,i_pSel_meets.d1,C.I_i,C.L_l,jW,jY,getD_map' sE hi,←sAt_get hi,w1 hi hl,e3,decide_true,jR,jX]
   simp only[sE,jC,i_pMark_eq _ hsz,call3,jI,C.S_s,jD,C.B_b,C.isP_p,C.P_p,C.I_i,jR,q1,q2,q3,markM]
   cases mkOk (sAt ms i)<;>cases sEq (mkNm (sAt ms i)) (mkS n)<;>cases k==1<;>cases sEq (mkVal (sAt ms i)) (mkS v)<;>simp[i_pSel_meets.d1,w1 hi hl])
  (by simp[i_pSel_meets.d2]) ms.length 0 rfl
 simp only[Int.natCast_zero,any_list] at h
 rw[h]
 cases ms.any (markM k n v)<;>simp
theorem i_meets:∀(k:Nat) (t:Tr),t.depth<k→t.Ok→i_pSel_meets.g k 0 [t.enc,.l (ms.map sE)]=some [.b (t.meets ms)]
 |0,t,h,_=>by omega
 |k+1,t,h,hok=>by
  have hs:∀x,i_pSel_meets.g (k+1) 0 x=i_pSel_meets.step (i_pSel_meets.g k 0) x:=fun _=>rfl
  rw[hs]
  simp only[i_pSel_meets.step,i_pSel_meets.d5,apL,jC,jD]
  cases t with
  |lf kd n v=>
   have hlf:=i_leaf hz (i_pSel_meets.g k 0) kd n v (.l []) (fun xs=>i_pSel_meets.d3 (i_pSel_meets.g k 0))
   have hk:kd=0∨kd=1∨kd=2:=by
    rcases hok with h|h
    ·rcases h.2 with ⟨h,_⟩|⟨h,_⟩
     ·exact .inr (.inl h)
     ·exact .inr (.inr h)
    ·simp only[Tr.lf.injEq] at h;exact .inl h.1
   simp only[Tr.enc,C.isP_p,jR,C.P_p,jC,C.I_i,Tr.meets]
   rcases hk with rfl|rfl|rfl
   ·simp[i_pSel_meets.d4]
   ·simp only[i_pSel_meets.d4,jJ,apL,jC,jD,C.B_b,C.L_l,jW,hlf,show (((1:Nat):Int)==1)=true from rfl,jR]
    cases ms.any (markM 1 n v)<;>simp[i_pSel_meets.d3]
   ·simp only[i_pSel_meets.d4,jJ,apL,jC,jD,C.B_b,C.L_l,jW,hlf,show (((2:Nat):Int)==1)=false from rfl,show (((2:Nat):Int)==2)=true from rfl,jR,jS]
    cases ms.any (markM 2 n v)<;>simp[i_pSel_meets.d3]
  |un t=>
   simp only[Tr.depth] at h
   have hw:t.Ok:=by
    rcases hok with h|h
    ·exact .inl h
    ·simp at h
   have ih:=i_meets k t (by omega) hw
   simp[Tr.enc,i_pSel_meets.d4,ih,call1,Tr.meets]
  |bn kd a b=>
   simp only[Tr.depth] at h
   have hw:(kd=4∨kd=5)∧a.Ok∧b.Ok:=by
    rcases hok with h|h
    ·exact ⟨h.1,.inl h.2.1,.inl h.2.2⟩
    ·simp at h
   have iha:=i_meets k a (by omega) hw.2.1
   have ihb:=i_meets k b (by omega) hw.2.2
   rcases hw.1 with rfl|rfl
   ·cases ha:a.meets ms<;>simp[Tr.enc,i_pSel_meets.d4,iha,ihb,call1,Tr.meets,ha]
   ·cases ha:a.meets ms<;>simp[Tr.enc,i_pSel_meets.d4,iha,ihb,call1,Tr.meets,ha]
theorem s_meets {N K:List (List C)} (hN:N.length≤1048576) (hK:K.length≤1048576):∀(k:Nat) (t:Tr) (o:Nat) (r r':List (List C)),t.depth<k→t.Ok→N.drop o=t.flat++r→K.drop o=t.kids o++r'→
  s_l1Meets.g k 0 [.l N,.l K,.i (o+t.sz-1:Nat),.l (ms.map sE)]=some [.b (t.meets ms)]
 |0,t,o,r,r',h,_,_,_=>by omega
 |k+1,t,o,r,r',h,hok,hd,hd'=>by
  have hs:∀x,s_l1Meets.g (k+1) 0 x=s_l1Meets.step (s_l1Meets.g k 0) x:=fun _=>rfl
  rw[hs]
  simp only[s_l1Meets.step,s_l1Meets.d4,apL,jC,jD,C.I_i,C.L_l,jY]
  cases t with
  |lf kd n v=>
   obtain ⟨h1,h2,_⟩:=drop_cons (show N.drop o=node kd n v 0::r from hd)
   have hlf:=s_leaf hz (s_l1Meets.g k 0) kd n v (.i ((0:Nat):Int)) (fun xs=>s_l1Meets.d3 (s_l1Meets.g k 0))
   have e:o+(Tr.lf kd n v).sz-1=o:=by simp[Tr.sz]
   have hg:N.getD o []=node kd n v 0:=by rw[List.getD_eq_getElem?_getD,List.getElem?_eq_getElem h1,h2];rfl
   have e1:((o:Int)<(N.length:Int)):=by omega
   have hk:kd=0∨kd=1∨kd=2:=by
    rcases hok with h|h
    ·rcases h.2 with ⟨h,_⟩|⟨h,_⟩
     ·exact .inr (.inl h)
     ·exact .inr (.inr h)
    ·simp only[Tr.lf.injEq] at h;exact .inl h.1
   simp only[e,hg,node,jC,jD,C.I_i,e1,decide_true,jR,jX,Tr.meets]
   rcases hk with rfl|rfl|rfl
   ·simp
   ·simp only[show (((1:Nat):Int)==0)=false from rfl,show (((1:Nat):Int)==3)=false from rfl,show (((1:Nat):Int)==4)=false from rfl,show (((1:Nat):Int)==5)=false from rfl,jS,hlf]
    cases ms.any (markM 1 n v)<;>simp[s_l1Meets.d3]
   ·simp only[show (((2:Nat):Int)==0)=false from rfl,show (((2:Nat):Int)==3)=false from rfl,show (((2:Nat):Int)==4)=false from rfl,show (((2:Nat):Int)==5)=false from rfl,jS,hlf]
    cases ms.any (markM 2 n v)<;>simp[s_l1Meets.d3]
  |un t=>
   simp only[Tr.depth] at h
   have hw:t.Ok:=by
    rcases hok with h|h
    ·exact .inl h
    ·simp at h
   have hn:N.drop o=t.flat++(node 3 [] [] 1::r):=by rw[hd];simp[Tr.flat]
   have hk:K.drop o=t.kids o++([.l [[.i (o+t.sz-1:Nat)]]]::r'):=by rw[hd'];simp[Tr.kids]
   have ih:=s_meets hN hK k t o _ _ (by omega) hw hn hk
   obtain ⟨h1,h2⟩:=drop_at hn
   obtain ⟨h3,h4⟩:=drop_at hk
   rw[t.flat_len] at h1
   rw[t.kids_len] at h3
   have h2:N[o+t.sz]=node 3 [] [] 1:=by simp only[t.flat_len] at h2;exact h2
   have h4:K[o+t.sz]=[.l [[.i (o+t.sz-1:Nat)]]]:=by simp only[t.kids_len] at h4;exact h4
   have e:o+(Tr.un t).sz-1=o+t.sz:=by simp[Tr.sz]
   have hg:N.getD (o+t.sz) []=node 3 [] [] 1:=by rw[List.getD_eq_getElem?_getD,List.getElem?_eq_getElem h1,h2];rfl
   have hg':K.getD (o+t.sz) []=[.l [[.i (o+t.sz-1:Nat)]]]:=by rw[List.getD_eq_getElem?_getD,List.getElem?_eq_getElem h3,h4];rfl
   have e1:(((o+t.sz:Nat):Int)<(N.length:Int)):=by omega
   have e2:(((o+t.sz:Nat):Int)<(K.length:Int)):=by omega
   simp only[e,hg,hg',node,jC,jD,C.I_i,C.L_l,e1,e2,decide_true,jR,jX,ih,call1,jI,C.B_b,Tr.meets]
   simp
  |bn kd a b=>
   simp only[Tr.depth] at h
   have hw:(kd=4∨kd=5)∧a.Ok∧b.Ok:=by
    rcases hok with h|h
    ·exact ⟨h.1,.inl h.2.1,.inl h.2.2⟩
    ·simp at h
   have hn:N.drop o=a.flat++(b.flat++(node kd [] [] 2::r)):=by rw[hd];simp[Tr.flat]
   have hn2:N.drop (o+a.sz)=b.flat++(node kd [] [] 2::r):=by rw[←List.drop_drop,hn,←a.flat_len];simp
   have hk:K.drop o=a.kids o++(b.kids (o+a.sz)++([.l [[.i (o+a.sz-1:Nat)],[.i (o+a.sz+b.sz-1:Nat)]]]::r')):=by rw[hd'];simp[Tr.kids]
   have hk2:K.drop (o+a.sz)=b.kids (o+a.sz)++([.l [[.i (o+a.sz-1:Nat)],[.i (o+a.sz+b.sz-1:Nat)]]]::r'):=by
    rw[←List.drop_drop,hk,←a.kids_len o];simp
   have iha:=s_meets hN hK k a o _ _ (by omega) hw.2.1 hn hk
   have ihb:=s_meets hN hK k b (o+a.sz) _ _ (by omega) hw.2.2 hn2 hk2
   obtain ⟨h1,h2⟩:=drop_at hn2
   obtain ⟨h3,h4⟩:=drop_at hk2
   rw[b.flat_len] at h1
   rw[b.kids_len] at h3
   have h2:N[o+a.sz+b.sz]=node kd [] [] 2:=by simp only[b.flat_len] at h2;exact h2
   have h4:K[o+a.sz+b.sz]=[.l [[.i (o+a.sz-1:Nat)],[.i (o+a.sz+b.sz-1:Nat)]]]:=by simp only[b.kids_len] at h4;exact h4
   have e:o+(Tr.bn kd a b).sz-1=o+a.sz+b.sz:=by simp only[Tr.sz];omega
   have hg:N.getD (o+a.sz+b.sz) []=node kd [] [] 2:=by rw[List.getD_eq_getElem?_getD,List.getElem?_eq_getElem h1,h2];rfl
   have hg':K.getD (o+a.sz+b.sz) []=[.l [[.i (o+a.sz-1:Nat)],[.i (o+a.sz+b.sz-1:Nat)]]]:=by rw[List.getD_eq_getElem?_getD,List.getElem?_eq_getElem h3,h4];rfl
   have e1:(((o+a.sz+b.sz:Nat):Int)<(N.length:Int)):=by omega
   have e2:(((o+a.sz+b.sz:Nat):Int)<(K.length:Int)):=by omega
   simp only[e,hg,hg',node,jC,jD,C.I_i,C.L_l,e1,e2,decide_true,jR,jX,iha,ihb,call1,jI,C.B_b,Tr.meets]
   rcases hw.1 with rfl|rfl
   ·cases a.meets ms<;>simp
   ·cases a.meets ms<;>simp
end
end Go.Ev
namespace Go.Ev
def PR.tr:PR→Option Tr
 |.err _=>none
 |.all=>some (.lf 0 [] [])
 |.tree t=>some t
theorem PR.tr_some {p:PR} {t:Tr} (h:p.tr=some t):p.nodes=t.flat∧p.ptr=t.enc∧p.code=0:=by
 cases p with
 |err n=>simp[PR.tr] at h
 |all=>simp only[PR.tr,Option.some.injEq] at h;subst h;exact ⟨rfl,rfl,rfl⟩
 |tree u=>simp only[PR.tr,Option.some.injEq] at h;subst h;exact ⟨rfl,rfl,rfl⟩
theorem PR.tr_none {p:PR} (h:p.tr=none):∃n,p=.err n:=by
 cases p with
 |err n=>exact ⟨n,rfl⟩
 |all=>simp[PR.tr] at h
 |tree u=>simp[PR.tr] at h
theorem pp_code (s:Str) {n:Nat} (h:pp s=.err n):n≠0:=by
 unfold pp at h
 split at h
 ·simp at h;omega
 ·split at h
  ·simp at h
  ·split at h
   ·split at h
    ·simp at h
    ·simp at h;omega
   ·simp at h;omega
theorem pp_ok {s:Str} {t:Tr} (h:(pp s).tr=some t):t.Ok∧t.sz≤200∧t.depth≤20:=by
 cases hp:pp s with
 |err n=>rw[hp] at h;simp[PR.tr] at h
 |all=>
  rw[hp] at h
  simp only[PR.tr,Option.some.injEq] at h
  subst h
  exact ⟨.inr rfl,by simp[Tr.sz],by simp[Tr.depth]⟩
 |tree u=>
  rw[hp] at h
  simp only[PR.tr,Option.some.injEq] at h
  subst h
  obtain ⟨h1,h2,h3⟩:=pp_tree hp
  exact ⟨.inl h1,h2,h3⟩
theorem s_l1Tree0:s_l1Tree [.l (Tr.lf 0 [] []).flat]=some [.b true]:=by
 have w0:w64 1=1:=w64_of (by omega) (by omega)
 have z0:within 0 0 5=true:=rfl
 have h0:ap2 s_l1Tree.d4 [.i 0,.l (Tr.lf 0 [] []).flat]=some (.again [.i 1,.l (Tr.lf 0 [] []).flat]):=by
  simp[s_l1Tree.d4,s_l1Tree.d3,s_l1Tree.d2,s_l1Tree.d1,Tr.flat,node,s_l1In_eq,z0,call1,emp,bs_nil,w0]
 have h1:ap2 s_l1Tree.d4 [.i 1,.l (Tr.lf 0 [] []).flat]=some (.brk 0 []):=by
  simp[s_l1Tree.d4,Tr.flat]
 have hk:=s_l1Kids_eq (.lf 0 [] []) (by simp[Tr.sz])
 have e:¬(((Tr.lf 0 [] []).flat.length:Int)>400):=by simp[Tr.flat]
 simp only[s_l1Tree,s_l1Tree.d6,apL,jC,C.L_l,e,decide_false,jS,hk,call2,jI,C.B_b,jZ]
 rw[lim_again h0,lim_brk h1]
 simp[s_l1Tree.d5]
theorem s_l1Tree_Ok (t:Tr) (ht:t.sz≤400) (ho:t.Ok):s_l1Tree [.l t.flat]=some [.b true]:=by
 rcases ho with h|rfl
 ·exact s_l1Tree_eq t ht h
 ·exact s_l1Tree0
theorem s_l1Valid_Ok (t:Tr) (ht:t.sz≤400) (ho:t.Ok):s_l1Valid [.l t.flat]=some [.b (decide (t.depth≤20))]:=by
 have hd:=t.depth_lt
 have hp:=t.sz_pos
 have hF:=FUEL_ge
 have hw1:w64 ((t.flat.length:Int)-1)=((0+t.sz-1:Nat):Int):=by rw[t.flat_len,w64_of (by omega) (by omega)];omega
 have hn:s_l1Nest [.l (t.kids 0),.i (0+t.sz-1:Nat)]=some [.i (t.depth:Nat)]:=
  s_nest (K:=t.kids 0) (by rw[t.kids_len];omega) FUEL t 0 [] (by omega) (by simp only[big];omega) (by simp)
 simp only[s_l1Valid,s_l1Valid.d1,apL,jC,jD,s_l1Tree_Ok t ht ho,call1,call2,jI,C.B_b,jZ,jS,s_l1Kids_eq t (by omega),C.L_l,hw1,hn,C.I_i,jV]
 have:decide ((t.depth:Int)≤20)=decide (t.depth≤20):=by
  rw[decide_eq_decide];omega
 rw[this]
def zoneS (z:Str):Str:=bs #[122,111,110,101,61]++z
def marksB (b:Bt):List Str:=b.marks++[zoneS b.zone]
def selM (s:Str) (b:Bt):Bool:=match (pp s).tr with
 |some t=>t.meets (marksB b)
 |none=>false
theorem zone_size (z:Str):(zoneS z).size=5+z.size:=by
 unfold zoneS
 rw[ByteArray.size_append];rfl
theorem berthOk_sz {b:Bt} (hb:berthOk b=true):b.marks.length≤10∧b.zone.size≤20:=by
 simp only[berthOk,marksOk,nameOk,within,Bool.and_eq_true,decide_eq_true_eq] at hb
 omega
theorem marksB_sz {b:Bt} (hz:b.Sz 1048576) (hb:berthOk b=true):SsSz 1048576 (marksB b):=by
 obtain ⟨h1,h2⟩:=berthOk_sz hb
 refine ⟨by simp[marksB];omega,fun s hs=>?_⟩
 rcases List.mem_append.1 hs with hs|hs
 ·exact hz.2.2.2 s hs
 ·simp at hs;subst hs;rw[zone_size];omega
theorem s_PilotMeets_eq (t:Tr) (ht:t.sz≤400) (ho:t.Ok) (hd:t.depth≤20) {ms:List Str} (hz:SsSz 1048576 ms):s_PilotMeets [.l t.flat,.l (ms.map sE)]=some [.b (t.meets ms)]:=by
 have hF:=FUEL_ge
 have hp:=t.sz_pos
 have hw1:w64 ((t.flat.length:Int)-1)=((0+t.sz-1:Nat):Int):=by rw[t.flat_len,w64_of (by omega) (by omega)];omega
 have hm:s_l1Meets [.l t.flat,.l (t.kids 0),.i (0+t.sz-1:Nat),.l (ms.map sE)]=some [.b (t.meets ms)]:=
  s_meets hz (by rw[t.flat_len];omega) (by rw[t.kids_len];omega) FUEL t 0 [] [] (by omega) ho (by simp) (by simp)
 simp only[s_PilotMeets,s_PilotMeets.d1,apL,jC,jD,s_l1Valid_Ok t ht ho,hd,decide_true,call1,call2,jI,C.B_b,jZ,jS,s_l1Kids_eq t (by omega),C.L_l,hw1,hm,jV]
theorem s_l3Select_eq (s:Str) (b:Bt) (hs:s.size≤1048576) (hz:b.Sz 1048576) (hb:berthOk b=true):s_l3Select (.s s::b.e)=some [.b (selM s b)]:=by
 obtain ⟨z1,z2⟩:=berthOk_sz hb
 have hm:s_l3Marks b.e=some [.l ((marksB b).map sE)]:=by
  have e1:b.marks.length≤4294967296:=by omega
  have e2:(bs #[122,111,110,101,61]).size+b.zone.size≤4294967296:=by
   have:(bs #[122,111,110,101,61]).size=5:=rfl
   omega
  have e3:b.marks.length+1≤4294967296:=by omega
  simp[s_l3Marks,s_l3Marks.d1,Bt.e,e1,e2,e3,marksB,zoneS,sE]
 simp only[Bt.e] at hm
 simp only[s_l3Select,s_l3Select.d1,Bt.e,apL,jC,jD,s_PilotParse_eq s hs,call2,jI,C.I_i,selM]
 cases ht:(pp s).tr with
 |none=>
  obtain ⟨n,hn⟩:=PR.tr_none ht
  have hne:=pp_code s hn
  have e:((((PR.err n).code:Nat):Int)==0)=false:=by rw[beq_eq_false_iff_ne];simp only[PR.code];omega
  rw[hn]
  simp only[e,jS,jV]
 |some t=>
  obtain ⟨h1,h2,h3⟩:=PR.tr_some ht
  obtain ⟨o1,o2,o3⟩:=pp_ok ht
  have hp:=s_PilotMeets_eq t (by omega) o1 o3 (marksB_sz hz hb)
  rw[h1,h3]
  simp[hm,call1,hp]
theorem i_pMeets_eq (s:Str) (b:Bt) (hs:s.size≤1048576) (hz:b.Sz 1048576) (hb:berthOk b=true):i_pMeets (.s s::b.e)=some [.b (selM s b)]:=by
 obtain ⟨z1,z2⟩:=berthOk_sz hb
 have hF:=FUEL_ge
 have e1:b.marks.length≤4294967296:=by omega
 have e2:(bs #[122,111,110,101,61]).size+b.zone.size≤4294967296:=by
  have:(bs #[122,111,110,101,61]).size=5:=rfl
  omega
 have e3:b.marks.length+1≤4294967296:=by omega
 have hmb:b.marks.map sE++[[.s (bs #[122,111,110,101,61]++b.zone)]]=(marksB b).map sE:=by simp[marksB,zoneS,sE]
 simp only[i_pMeets,i_pMeets.d1,Bt.e,apL,jC,jD,i_pParse_eq s hs,call2,jI,C.I_i,C.L_l,C.S_s,jW,rows,hmb,selM]
 cases ht:(pp s).tr with
 |none=>
  obtain ⟨n,hn⟩:=PR.tr_none ht
  have hne:=pp_code s hn
  have e:((((PR.err n).code:Nat):Int)==0)=false:=by rw[beq_eq_false_iff_ne];simp only[PR.code];omega
  rw[hn]
  simp only[e,jS,jV]
 |some t=>
  obtain ⟨h1,h2,h3⟩:=PR.tr_some ht
  obtain ⟨o1,o2,o3⟩:=pp_ok ht
  have hm:i_pSel_meets [t.enc,.l ((marksB b).map sE)]=some [.b (t.meets (marksB b))]:=i_meets (marksB_sz hz hb) FUEL t (by omega) o1
  rw[h2,h3]
  simp[e1,e2,e3,hm,call1]
end Go.Ev
namespace Go.Ev
def zoneOf (f:Fl) (nm:Str):Str:=if bIx f nm<0 then mkS [] else match f.bts[(bIx f nm).toNat]? with
 |some b=>b.zone
 |none=>mkS []
theorem bIx_at (f:Fl) (nm:Str):bIx f nm<0∨∃k,∃h:k<f.bts.length,bIx f nm=(k:Nat)∧sEq f.bts[k].name nm=true:=by
 rcases findIx_at (fun x:Bt=>sEq x.name nm) f.bts 0 with h|⟨k,hk,h1,h2⟩
 ·exact .inl h
 ·exact .inr ⟨k,hk,by rw[←Nat.zero_add k];exact h1,h2⟩
theorem cIx_at (f:Fl) (nm:Str):cIx f nm<0∨∃k,∃h:k<f.cps.length,cIx f nm=(k:Nat)∧sEq f.cps[k].name nm=true:=by
 rcases findIx_at (fun x:Cp=>sEq x.name nm) f.cps 0 with h|⟨k,hk,h1,h2⟩
 ·exact .inl h
 ·exact .inr ⟨k,hk,by rw[←Nat.zero_add k];exact h1,h2⟩
theorem s_l3ZoneOf_eq (f:Fl) (nm:Str) (hz:f.Sz 1048576):s_l3ZoneOf (f.e++[.s nm])=some [.s (zoneOf f nm)]:=by
 have hb:=s_l2Berth_eq f nm hz.1.1
 simp only[Fl.e,jA,jB] at hb
 simp only[s_l3ZoneOf,s_l3ZoneOf.d1,Fl.e,jA,jB,apL,jC,jD,hb,call1,jI,C.I_i,C.L_l,jW,zoneOf]
 rcases bIx_at f nm with h|⟨k,hk,h1,_⟩
 ·simp[h,bs_nil]
 ·have e5:¬((k:Int)<0):=by omega
  have e6:((k:Int)<(f.bts.length:Int)):=by omega
  have hg:f.bts[k].e.getD 1 .nil=.s f.bts[k].zone:=rfl
  simp only[h1,e5,e6,decide_true,decide_false,jR,jS,jX,jY,getD_map' Bt.e hk,hg,if_false,List.getElem?_eq_getElem hk,jV]
theorem i_pZone_eq (f:Fl) (nm:Str) (hz:f.Sz 1048576):i_pZone (f.e++[.s nm])=some [.s (zoneOf f nm)]:=by
 have hb:=i_pBerthAt_eq f nm hz.1.1
 simp only[Fl.e,jA,jB] at hb
 simp only[i_pZone,i_pZone.d1,Fl.e,jA,jB,apL,jC,jD,hb,call1,jI,C.I_i,C.L_l,jW,zoneOf]
 rcases bIx_at f nm with h|⟨k,hk,h1,_⟩
 ·have e:¬(bIx f nm≥0):=by omega
  simp[h,e,bs_nil]
 ·have e5:¬((k:Int)<0):=by omega
  have e7:((k:Int)≥0):=by omega
  have e6:((k:Int)<(f.bts.length:Int)):=by omega
  have hg:f.bts[k].e.getD 1 .nil=.s f.bts[k].zone:=rfl
  simp only[h1,e5,e6,e7,decide_true,jR,jX,jY,getD_map' Bt.e hk,hg,if_false,List.getElem?_eq_getElem hk,jV]
def oth (c x:Cp):Bool:=!sEq x.name c.name&&!sEq x.at_ (mkS [])
section
variable {f:Fl} (hz:f.Sz 1048576) {c:Cp} (hc:c.Sz 1048576) {b:Bt} (hb:b.Sz 1048576) (hbo:berthOk b=true)
include hz hc hb hbo
end
end Go.Ev
namespace Go.Ev
theorem valid_bts0 {f:Fl} (h:validF f=true):∀b,b∈f.bts→berthOk b=true:=by
 intro b hb
 obtain ⟨i,hi,rfl⟩:=List.getElem_of_mem hb
 simp only[validF,Bool.and_eq_true] at h
 have:=(allFrom_iff _ _ _).1 h.2.2.2.2.2.1 i (Nat.zero_le _) (by omega)
 simp only[btA,List.getElem?_eq_getElem hi,Bool.and_eq_true] at this
 exact this.1
theorem valid_cps {f:Fl} (h:validF f=true):∀c,c∈f.cps→copyOk c=true:=by
 intro b hb
 obtain ⟨i,hi,rfl⟩:=List.getElem_of_mem hb
 simp only[validF,Bool.and_eq_true] at h
 have:=(allFrom_iff _ _ _).1 h.2.2.2.2.1 i (Nat.zero_le _) (by omega)
 simp only[cpA,List.getElem?_eq_getElem hi,Bool.and_eq_true] at this
 exact this.1
structure VB (f:Fl):Prop where
 n60:f.cps.length≤60
 cb:∀x,x∈f.cps→(0≤x.room∧x.room≤1000)∧(0≤x.hold∧x.hold≤1000)∧(0≤x.apart∧x.apart≤2)∧(0≤x.rank∧x.rank≤100)∧(0≤x.born∧x.born≤1000000)
 bb:∀b,b∈f.bts→berthOk b=true
theorem valid_bts {f:Fl} (h:VB f):∀b,b∈f.bts→berthOk b=true:=h.bb
theorem vb_of {f:Fl} (h:validF f=true):VB f:=by
 refine ⟨?_,fun x hx=>?_,valid_bts0 h⟩
 ·simp only[validF,Bool.and_eq_true,decide_eq_true_eq] at h
  exact h.2.2.1
 ·have:=valid_cps h x hx
  simp only[copyOk,within,Bool.and_eq_true,decide_eq_true_eq] at this
  exact ⟨this.2.2.2.1,this.2.2.2.2.1,this.2.2.2.2.2.2.1,this.2.1,this.2.2.1⟩
section
variable {f:Fl} (hz:f.Sz 1048576) {c:Cp} (hc:c.Sz 1048576) {b:Bt} (hb:b.Sz 1048576) (hbo:berthOk b=true)
include hz hc hb hbo
end
section
variable {f:Fl} (hz:f.Sz 1048576) (cn bn_:Str)
include hz
end
end Go.Ev
namespace Go.Ev
def at_P {α:Type} (p:α→Bool) (l:List α) (j:Nat):Bool:=match l[j]? with|some x=>p x|none=>false
theorem at_P_lt {α:Type} (p:α→Bool) {l:List α} {j:Nat} (h:j<l.length):at_P p l j=p l[j]:=by simp[at_P,h]
theorem any_P {α:Type} (p:α→Bool) (l:List α):allFrom (fun j=>!at_P p l j) 0 l.length=!l.any p:=by
 rw[←Bool.not_not (b:=allFrom _ _ _)]
 congr 1
 rw[Bool.eq_iff_iff,any_from,List.any_eq_true]
 constructor
 ·rintro ⟨j,_,h1,h2⟩
  have hj:j<l.length:=by omega
  rw[at_P_lt p hj] at h2
  exact ⟨_,List.getElem_mem hj,h2⟩
 ·rintro ⟨x,hx,h⟩
  obtain ⟨j,hj,rfl⟩:=List.getElem_of_mem hx
  exact ⟨j,Nat.zero_le _,by omega,by rw[at_P_lt p hj];exact h⟩
def anyN {α:Type} (p:α→Bool) (l:List α) (i:Nat):Bool:=(l.take i).any p
theorem anyN_succ {α:Type} (p:α→Bool) {l:List α} {i:Nat} (h:i<l.length):anyN p l (i+1)=(anyN p l i||p l[i]):=by
 unfold anyN
 rw[List.take_succ_eq_append_getElem h,List.any_append]
 simp only[List.any_cons,List.any_nil,Bool.or_false]
theorem anyN_all {α:Type} (p:α→Bool) (l:List α):anyN p l l.length=l.any p:=by simp[anyN]
def cntN {α:Type} (p:α→Bool) (l:List α) (i:Nat):Nat:=(l.take i).countP p
theorem cntN_succ {α:Type} (p:α→Bool) {l:List α} {i:Nat} (h:i<l.length):cntN p l (i+1)=cntN p l i+(bif p l[i] then 1 else 0):=by
 simp only[cntN,List.take_succ_eq_append_getElem h,List.countP_append,List.countP_cons,List.countP_nil]
 cases p l[i]<;>simp
theorem cntN_le {α:Type} (p:α→Bool) (l:List α) (i:Nat):cntN p l i≤i:=by
 have:=List.countP_le_length (p:=p) (l:=l.take i)
 simp only[cntN,List.length_take] at*
 omega
def sumN {α:Type} (p:α→Bool) (g:α→Int) (l:List α) (i:Nat):Int:=((l.take i).map fun x=>bif p x then g x else 0).sum
theorem sumN_succ {α:Type} (p:α→Bool) (g:α→Int) {l:List α} {i:Nat} (h:i<l.length):sumN p g l (i+1)=sumN p g l i+(bif p l[i] then g l[i] else 0):=by
 unfold sumN
 rw[List.take_succ_eq_append_getElem h,List.map_append,List.sum_append]
 simp only[List.map_cons,List.map_nil,List.sum_cons,List.sum_nil,Int.add_zero]
theorem sumN_le {α:Type} (p:α→Bool) (g:α→Int) {l:List α} (hl:∀x,x∈l→0≤g x∧g x≤1000):∀i,i≤l.length→0≤sumN p g l i∧sumN p g l i≤1000*i
 |0,_=>by simp[sumN]
 |i+1,h=>by
  have ih:=sumN_le p g hl i (by omega)
  have h2:=hl _ (List.getElem_mem (show i<l.length by omega))
  rw[sumN_succ p g (by omega)]
  cases p l[i]<;>simp only[jR,jS]<;>omega
def togP (f:Fl) (c:Cp) (b:Bt) (x:Cp):Bool:=oth c x&&(sEq x.svc c.svc&&(sEq x.at_ b.name&&(x.apart !=0||c.apart !=0)||sEq (zoneOf f x.at_) b.zone&&(x.apart==2||c.apart==2)))
def nearP (f:Fl) (c:Cp) (b:Bt) (x:Cp):Bool:=oth c x&&(sEq x.svc c.near&&sEq (zoneOf f x.at_) b.zone)
def svcP (c:Cp) (s:Str) (x:Cp):Bool:=oth c x&&sEq x.svc s
def farB (f:Fl) (c:Cp) (b:Bt):Bool:=!sEq c.near (mkS [])&&(!f.cps.any (nearP f c b)&&(f.cps.any (svcP c c.near)||!sEq c.near c.svc))
def onP (c:Cp) (b:Bt) (x:Cp):Bool:=oth c x&&sEq x.at_ b.name
def fitsN (f:Fl) (c:Cp) (b:Bt) (o:Bool):Nat:=
 bif b.shut&&!o then 1 else bif !sEq c.fixed (mkS [])&&!sEq c.fixed b.name then 2 else bif !selM c.sel b then 3 else bif f.cps.any (togP f c b) then 4 else bif farB f c b then 5 else
 bif decide (10≤cntN (onP c b) f.cps f.cps.length) then 6 else bif decide (b.room<sumN (onP c b) Cp.room f.cps f.cps.length+c.room) then 7 else bif decide (b.hold<sumN (onP c b) Cp.hold f.cps f.cps.length+c.hold) then 8 else 0
theorem name_ne {b:Bt} (h:berthOk b=true) (s:Str) (hs:sEq s b.name=true):sEq s (mkS [])=false:=by
 cases h0:sEq s (mkS []) with
 |false=>rfl
 |true=>
  have e1:s=b.name:=by rw[sEq_iff] at hs;exact hs
  have e2:s=mkS []:=by rw[sEq_iff] at h0;exact h0
  rw[e2] at e1
  simp only[berthOk,Bool.and_eq_true] at h
  have h:=h.1
  rw[←e1] at h
  exact absurd h (by decide)
theorem cp_room {f:Fl} (h:VB f):∀x,x∈f.cps→0≤x.room∧x.room≤1000:=fun x hx=>(h.cb x hx).1
theorem cp_hold {f:Fl} (h:VB f):∀x,x∈f.cps→0≤x.hold∧x.hold≤1000:=fun x hx=>(h.cb x hx).2.1
theorem cp_apart {f:Fl} (h:VB f):∀x,x∈f.cps→0≤x.apart∧x.apart≤2:=fun x hx=>(h.cb x hx).2.2.1
theorem cps_60 {f:Fl} (h:VB f):f.cps.length≤60:=h.n60
end Go.Ev
namespace Go.Ev
section
variable {f:Fl} (hz:f.Sz 1048576) {c:Cp} (hc:c.Sz 1048576) {b:Bt} (hb:b.Sz 1048576) (hbo:berthOk b=true)
include hz hc hb hbo
theorem s_l3Together_eq:s_l3Together (f.e++c.e++b.e)=some [.b (f.cps.any (togP f c b))]:=by
 have hlc:f.cps.length<big:=by have:=hz.2.2.1;simp only[big];omega
 have h:=chk_loop (body:=ap23 s_l3Together.d3) (S:=fun i=>[C.i (i:Nat)]++f.e++c.e++b.e) (p:=fun j=>!at_P (togP f c b) f.cps j) (n:=f.cps.length) (b:=0) (ys:=[]) (r:=[.b true])
  (fun i hi=>by
   have e3:((i:Int)<(f.cps.length:Int)):=by omega
   have hzo:=s_l3ZoneOf_eq f f.cps[i].at_ hz
   simp only[Fl.e,jA,jB] at hzo
   have q1:(f.cps[i].name.toList==c.name.toList)=sEq f.cps[i].name c.name:=rfl
   have q2:(f.cps[i].at_.toList==(bs #[]).toList)=sEq f.cps[i].at_ (mkS []):=rfl
   have q3:(f.cps[i].at_.toList==b.name.toList)=sEq f.cps[i].at_ b.name:=rfl
   have q4:(f.cps[i].svc.toList==c.svc.toList)=sEq f.cps[i].svc c.svc:=rfl
   have q5:((zoneOf f f.cps[i].at_).toList==b.zone.toList)=sEq (zoneOf f f.cps[i].at_) b.zone:=rfl
   simp only[at_P_lt _ hi,togP,oth]
   simp only[Fl.e,Cp.e,Bt.e,jA,jB,apL,jC,jD,s_l3Together.d3,C.I_i,C.L_l,C.S_s,jW,jY,getD_map' Cp.e hi,e3,decide_true,jR,jX]
   simp only[Cp.e,jC,jD,C.S_s,C.I_i,q1,q2,q3,q4]
   cases sEq f.cps[i].name c.name with
   |true=>simp[s_l3Together.d2,w1 hi hlc]
   |false=>
    cases sEq f.cps[i].svc c.svc with
    |false=>simp[s_l3Together.d2,w1 hi hlc]
    |true=>
     cases sEq f.cps[i].at_ (mkS []) with
     |true=>simp[s_l3Together.d2,w1 hi hlc]
     |false=>
      cases h3:sEq f.cps[i].at_ b.name<;>cases h4:f.cps[i].apart !=0<;>cases h5:c.apart !=0<;>cases h6:sEq (zoneOf f f.cps[i].at_) b.zone<;>cases h7:f.cps[i].apart==2<;>cases h8:c.apart==2<;>
       simp only[ja,jZ,jR,jS,Bool.true_and,Bool.false_and,Bool.and_true,Bool.and_false,Bool.or_true,Bool.or_false,Bool.false_or,Bool.true_or,jJ,bindNrm_ret,bindBlk_ret,jC,jD,s_l3Together.d1,C.S_s,C.I_i,q5,h6,h7,h8,hzo,call1,jI,bindBlk_self,apL,s_l3Together.d2,w1 hi hlc])
  (by simp[s_l3Together.d3,Fl.e,Cp.e,Bt.e]) f.cps.length 0 rfl
 simp only[Fl.e,Cp.e,Bt.e,jA,jB,Int.natCast_zero,any_P] at h
 simp only[s_l3Together,s_l3Together.d5,Fl.e,Cp.e,Bt.e,jA,jB,apL,jC,jD]
 rw[h]
 cases f.cps.any (togP f c b)<;>simp[s_l3Together.d4]
theorem s_l3Far_eq:s_l3Far (f.e++c.e++b.e)=some [.b (farB f c b)]:=by
 have hlc:f.cps.length<big:=by have:=hz.2.2.1;simp only[big];omega
 have h:=chk_loop (body:=ap24 s_l3Far.d2) (S:=fun i=>[C.b (anyN (svcP c c.near) f.cps i),C.i (i:Nat)]++f.e++c.e++b.e) (p:=fun j=>!at_P (nearP f c b) f.cps j) (n:=f.cps.length) (b:=0) (ys:=.b (anyN (svcP c c.near) f.cps f.cps.length)::c.e) (r:=[.b false])
  (fun i hi=>by
   have e3:((i:Int)<(f.cps.length:Int)):=by omega
   have hzo:=s_l3ZoneOf_eq f f.cps[i].at_ hz
   simp only[Fl.e,jA,jB] at hzo
   have q1:(f.cps[i].name.toList==c.name.toList)=sEq f.cps[i].name c.name:=rfl
   have q2:(f.cps[i].at_.toList==(bs #[]).toList)=sEq f.cps[i].at_ (mkS []):=rfl
   have q4:(f.cps[i].svc.toList==c.near.toList)=sEq f.cps[i].svc c.near:=rfl
   have q5:((zoneOf f f.cps[i].at_).toList==b.zone.toList)=sEq (zoneOf f f.cps[i].at_) b.zone:=rfl
   simp only[at_P_lt _ hi,nearP,oth,anyN_succ _ hi]
   generalize anyN (svcP c c.near) f.cps i=q
   simp only[Fl.e,Cp.e,Bt.e,jA,jB,apL,jC,jD,s_l3Far.d2,C.I_i,C.L_l,C.S_s,jW,jY,getD_map' Cp.e hi,e3,decide_true,jR,jX,svcP,oth]
   simp only[Cp.e,jC,jD,C.S_s,C.I_i,q1,q2,q4]
   cases sEq f.cps[i].name c.name with
   |true=>simp[s_l3Far.d1,w1 hi hlc]
   |false=>
    cases sEq f.cps[i].svc c.near with
    |false=>simp[s_l3Far.d1,w1 hi hlc]
    |true=>
     cases sEq f.cps[i].at_ (mkS []) with
     |true=>simp[s_l3Far.d1,w1 hi hlc]
     |false=>cases h6:sEq (zoneOf f f.cps[i].at_) b.zone<;>simp[s_l3Far.d1,w1 hi hlc,hzo,call1,q5,h6])
  (by simp[s_l3Far.d2,Fl.e,Cp.e,Bt.e]) f.cps.length 0 rfl
 have h0:anyN (svcP c c.near) f.cps 0=false:=by simp[anyN]
 have q0:(c.near.toList==(bs #[]).toList)=sEq c.near (mkS []):=rfl
 have q1:(c.near.toList==c.svc.toList)=sEq c.near c.svc:=rfl
 simp only[Fl.e,Cp.e,Bt.e,jA,jB,Int.natCast_zero,any_P,h0,anyN_all] at h
 simp only[s_l3Far,s_l3Far.d4,Fl.e,Cp.e,Bt.e,jA,jB,apL,jC,jD,C.S_s,q0,farB]
 rw[h]
 cases sEq c.near (mkS [])<;>cases f.cps.any (nearP f c b)<;>cases f.cps.any (svcP c c.near)<;>simp[s_l3Far.d3,q1]
theorem s_l3Fits_eq (hv:VB f) (hr:0≤c.room∧c.room≤1000) (hh:0≤c.hold∧c.hold≤1000) (o:Bool):s_l3Fits (f.e++c.e++b.e++[.b o])=some [.i (fitsN f c b o:Nat)]:=by
 have hlc:f.cps.length<big:=by have:=hz.2.2.1;simp only[big];omega
 have h60:=cps_60 hv
 have h:=run_loop (body:=ap27 s_l3Fits.d2) (S:=fun i=>[C.b o,C.i (sumN (onP c b) Cp.room f.cps i+c.room),C.i (sumN (onP c b) Cp.hold f.cps i+c.hold),C.i (cntN (onP c b) f.cps i:Nat),C.i (i:Nat)]++f.e++c.e++b.e) (n:=f.cps.length) (b:=0)
  (ys:=[C.b o,C.i (sumN (onP c b) Cp.room f.cps f.cps.length+c.room),C.i (sumN (onP c b) Cp.hold f.cps f.cps.length+c.hold),C.i (cntN (onP c b) f.cps f.cps.length:Nat)]++f.e++c.e++b.e)
  (fun i hi=>by
   have e3:((i:Int)<(f.cps.length:Int)):=by omega
   have q1:(f.cps[i].name.toList==c.name.toList)=sEq f.cps[i].name c.name:=rfl
   have q3:(f.cps[i].at_.toList==b.name.toList)=sEq f.cps[i].at_ b.name:=rfl
   have b1:=sumN_le (onP c b) Cp.room (cp_room hv) i (by omega)
   have b2:=sumN_le (onP c b) Cp.hold (cp_hold hv) i (by omega)
   have b3:=cntN_le (onP c b) f.cps i
   have b4:=cp_room hv _ (List.getElem_mem hi)
   have b5:=cp_hold hv _ (List.getElem_mem hi)
   have w2:w64 (sumN (onP c b) Cp.room f.cps i+c.room+f.cps[i].room)=sumN (onP c b) Cp.room f.cps i+f.cps[i].room+c.room:=by rw[w64_of (by omega) (by omega)];omega
   have w3:w64 (sumN (onP c b) Cp.hold f.cps i+c.hold+f.cps[i].hold)=sumN (onP c b) Cp.hold f.cps i+f.cps[i].hold+c.hold:=by rw[w64_of (by omega) (by omega)];omega
   have w4:=w64n (n:=cntN (onP c b) f.cps i) (by omega)
   have hon:onP c b f.cps[i]=(!sEq f.cps[i].name c.name&&sEq f.cps[i].at_ b.name):=by
    unfold onP oth
    cases h3:sEq f.cps[i].at_ b.name with
    |true=>rw[name_ne hbo _ h3];simp
    |false=>simp
   simp only[Fl.e,Cp.e,Bt.e,jA,jB,apL,jC,jD,s_l3Fits.d2,C.I_i,C.L_l,C.S_s,jW,jY,getD_map' Cp.e hi,e3,decide_true,jR,jX,sumN_succ _ _ hi,cntN_succ _ hi,hon]
   simp only[Cp.e,jC,jD,C.S_s,C.I_i,q1,q3]
   cases sEq f.cps[i].name c.name<;>cases sEq f.cps[i].at_ b.name<;>simp[s_l3Fits.d1,w1 hi hlc,w2,w3,w4])
  (by simp[s_l3Fits.d2,Fl.e,Cp.e,Bt.e]) f.cps.length 0 rfl
 have z1:sumN (onP c b) Cp.room f.cps 0=0:=by simp[sumN]
 have z2:sumN (onP c b) Cp.hold f.cps 0=0:=by simp[sumN]
 have z3:cntN (onP c b) f.cps 0=0:=by simp[cntN]
 have hsel:=s_l3Select_eq c.sel b hc.2.2.1 hb hbo
 have hT:=s_l3Together_eq hz hc hb hbo
 have hF:=s_l3Far_eq hz hc hb hbo
 have q0:(c.fixed.toList==(bs #[]).toList)=sEq c.fixed (mkS []):=rfl
 have q1:(c.fixed.toList==b.name.toList)=sEq c.fixed b.name:=rfl
 simp only[Fl.e,Cp.e,Bt.e,jA,jB,Int.natCast_zero,z1,z2,z3,Int.zero_add] at h hsel hT hF
 simp only[s_l3Fits,s_l3Fits.d6,Fl.e,Cp.e,Bt.e,jA,jB,apL,jC,jD]
 rw[h]
 have e6:(10:Int)≤((cntN (onP c b) f.cps f.cps.length:Nat):Int)↔10≤cntN (onP c b) f.cps f.cps.length:=by omega
 simp only[bindBlk_self,apL,jC,jD,s_l3Fits.d5,C.B_b,fitsN]
 have fin:∀e:Bool,s_l3Fits.d3 (.i (sumN (onP c b) Cp.room f.cps f.cps.length+c.room)) (.i (sumN (onP c b) Cp.hold f.cps f.cps.length+c.hold)) (.i (cntN (onP c b) f.cps f.cps.length:Nat)) (.b e) (.b f.pack) (.l (f.bts.map Bt.e)) (.l (f.svs.map Sv.e)) (.l (f.cps.map Cp.e))
   (.s c.name) (.s c.svc) (.i c.rank) (.i c.born) (.i c.room) (.i c.hold) (.s c.sel) (.l (c.likes.map Lk.e)) (.i c.apart) (.s c.near) (.s c.fixed) (.s c.at_) (.s b.name) (.s b.zone) (.l (b.marks.map sE)) (.i b.room) (.i b.hold) (.b b.shut)=
   some (.ret [.i (((bif e then 2 else bif !selM c.sel b then 3 else bif f.cps.any (togP f c b) then 4 else bif farB f c b then 5 else
 bif decide (10≤cntN (onP c b) f.cps f.cps.length) then 6 else bif decide (b.room<sumN (onP c b) Cp.room f.cps f.cps.length+c.room) then 7 else bif decide (b.hold<sumN (onP c b) Cp.hold f.cps f.cps.length+c.hold) then 8 else 0:Nat):Nat):Int)]):=by
  intro e
  simp only[s_l3Fits.d3,C.B_b,C.I_i,hsel,hT,hF,call1,jI,jC,ge_iff_le,e6,gt_iff_lt]
  cases e
  ·simp only[jS]
   cases selM c.sel b
   ·rfl
   ·simp only[jZ,jS]
    cases f.cps.any (togP f c b)
    ·simp only[jS]
     cases farB f c b
     ·simp only[jS]
      cases decide (10≤cntN (onP c b) f.cps f.cps.length)
      ·simp only[jS]
       cases decide (b.room<sumN (onP c b) Cp.room f.cps f.cps.length+c.room)
       ·simp only[jS]
        cases decide (b.hold<sumN (onP c b) Cp.hold f.cps f.cps.length+c.hold)<;>rfl
       ·rfl
      ·rfl
     ·rfl
    ·rfl
  ·rfl
 generalize (bif !selM c.sel b then 3 else bif f.cps.any (togP f c b) then 4 else bif farB f c b then 5 else
 bif decide (10≤cntN (onP c b) f.cps f.cps.length) then 6 else bif decide (b.room<sumN (onP c b) Cp.room f.cps f.cps.length+c.room) then 7 else bif decide (b.hold<sumN (onP c b) Cp.hold f.cps f.cps.length+c.hold) then 8 else 0:Nat)=N at fin⊢
 cases hs:b.shut<;>rw[hs] at fin<;>cases o<;>cases h1:sEq c.fixed (mkS [])<;>cases h2:sEq c.fixed b.name<;>
  simp only[s_l3Fits.d4,q0,q1,h1,h2,fin,C.B_b,C.S_s,jR,jS,jZ,ja,Bool.and_true,Bool.and_false,Bool.true_and,Bool.false_and,jJ,apL,jC,jD,jV]<;>rfl
end
end Go.Ev
namespace Go.Ev
section
variable {f:Fl} (hz:f.Sz 1048576) {c:Cp} (hc:c.Sz 1048576) {b:Bt} (hb:b.Sz 1048576) (hbo:berthOk b=true)
include hz hc hb hbo
theorem i_fits_loop (hv:VB f) (hr:0≤c.room∧c.room≤1000) (hh:0≤c.hold∧c.hold≤1000) (ha:0≤c.apart∧c.apart≤2):lim (ap31 i_pFits.d4) ([C.b false,C.b false,C.i 0,C.i 0,C.i 0,C.b false,C.l (f.cps.map Cp.e),C.i ((f.cps.length:Nat):Int),C.i 0]++f.e++c.e++b.e)=
  some (.brk 0 ([C.b (anyN (nearP f c b) f.cps f.cps.length),C.b (anyN (svcP c c.svc) f.cps f.cps.length),C.i (cntN (onP c b) f.cps f.cps.length:Nat),C.i (sumN (onP c b) Cp.room f.cps f.cps.length),C.i (sumN (onP c b) Cp.hold f.cps f.cps.length),C.b (anyN (togP f c b) f.cps f.cps.length)]++c.e++b.e)):=by
 have hlc:f.cps.length<big:=by have:=hz.2.2.1;simp only[big];omega
 have h60:=cps_60 hv
 have h:=run_loop (body:=ap31 i_pFits.d4) (S:=fun i=>[C.b (anyN (nearP f c b) f.cps i),C.b (anyN (svcP c c.svc) f.cps i),C.i (cntN (onP c b) f.cps i:Nat),C.i (sumN (onP c b) Cp.room f.cps i),C.i (sumN (onP c b) Cp.hold f.cps i),C.b (anyN (togP f c b) f.cps i),C.l (f.cps.map Cp.e),C.i ((f.cps.length:Nat):Int),C.i (i:Nat)]++f.e++c.e++b.e) (n:=f.cps.length) (b:=0)
  (ys:=[C.b (anyN (nearP f c b) f.cps f.cps.length),C.b (anyN (svcP c c.svc) f.cps f.cps.length),C.i (cntN (onP c b) f.cps f.cps.length:Nat),C.i (sumN (onP c b) Cp.room f.cps f.cps.length),C.i (sumN (onP c b) Cp.hold f.cps f.cps.length),C.b (anyN (togP f c b) f.cps f.cps.length)]++c.e++b.e)
  (fun i hi=>by
   have e3:((i:Int)<(f.cps.length:Int)):=by omega
   have hzo:=i_pZone_eq f f.cps[i].at_ hz
   simp only[Fl.e,jA,jB] at hzo
   have q1:(f.cps[i].name.toList==c.name.toList)=sEq f.cps[i].name c.name:=rfl
   have q2:(f.cps[i].at_.toList==(bs #[]).toList)=sEq f.cps[i].at_ (mkS []):=rfl
   have q3:(f.cps[i].at_.toList==b.name.toList)=sEq f.cps[i].at_ b.name:=rfl
   have q4:(f.cps[i].svc.toList==c.svc.toList)=sEq f.cps[i].svc c.svc:=rfl
   have q6:(f.cps[i].svc.toList==c.near.toList)=sEq f.cps[i].svc c.near:=rfl
   have q5:((zoneOf f f.cps[i].at_).toList==b.zone.toList)=sEq (zoneOf f f.cps[i].at_) b.zone:=rfl
   have b1:=sumN_le (onP c b) Cp.room (cp_room hv) i (by omega)
   have b2:=sumN_le (onP c b) Cp.hold (cp_hold hv) i (by omega)
   have b3:=cntN_le (onP c b) f.cps i
   have b4:=cp_room hv _ (List.getElem_mem hi)
   have b5:=cp_hold hv _ (List.getElem_mem hi)
   have b6:=cp_apart hv _ (List.getElem_mem hi)
   have w2:w64 (sumN (onP c b) Cp.room f.cps i+f.cps[i].room)=sumN (onP c b) Cp.room f.cps i+f.cps[i].room:=by rw[w64_of (by omega) (by omega)]
   have w3:w64 (sumN (onP c b) Cp.hold f.cps i+f.cps[i].hold)=sumN (onP c b) Cp.hold f.cps i+f.cps[i].hold:=by rw[w64_of (by omega) (by omega)]
   have w4:=w64n (n:=cntN (onP c b) f.cps i) (by omega)
   have w5:decide (w64 (c.apart+f.cps[i].apart)>0)=(f.cps[i].apart !=0||c.apart !=0):=by
    rw[w64_of (by omega) (by omega),Bool.eq_iff_iff,decide_eq_true_eq,Bool.or_eq_true,bne_iff_ne,bne_iff_ne];omega
   simp only[anyN_succ _ hi,sumN_succ _ _ hi,cntN_succ _ hi]
   generalize anyN (nearP f c b) f.cps i=A1
   generalize anyN (svcP c c.svc) f.cps i=A2
   generalize anyN (togP f c b) f.cps i=A3
   generalize sumN (onP c b) Cp.room f.cps i=A4 at w2
   generalize sumN (onP c b) Cp.hold f.cps i=A5 at w3
   generalize cntN (onP c b) f.cps i=A6 at w4
   simp only[Fl.e,Cp.e,Bt.e,jA,jB,apL,jC,jD,i_pFits.d4,C.I_i,C.L_l,C.S_s,jW,jY,getD_map' Cp.e hi,e3,decide_true,jR,jX,nearP,svcP,togP,onP,oth]
   simp only[Cp.e,jC,jD,C.S_s,C.I_i,C.B_b,q1,q2,q3,q4,q5,w5,hzo,call1,jI]
   cases sEq f.cps[i].name c.name with
   |true=>simp[i_pFits.d3,w1 hi hlc]
   |false=>
    cases sEq f.cps[i].at_ (mkS []) with
    |true=>simp[i_pFits.d3,w1 hi hlc]
    |false=>
     simp only[ja,jR,jS,Bool.true_and]
     have fin:∀(t:Bool) (n:Bool),bindBlk 1 (i_pFits.d2 (.b A1) (.b n) (.i (A6:Nat)) (.i A4) (.i A5) (.b t) (.b (sEq (zoneOf f f.cps[i].at_) b.zone)) (.l (f.cps.map Cp.e)) (.i (f.cps.length:Nat)) (.i (i:Nat)) (.b f.pack) (.l (f.bts.map Bt.e)) (.l (f.svs.map Sv.e)) (.l (f.cps.map Cp.e))
       (.s c.name) (.s c.svc) (.i c.rank) (.i c.born) (.i c.room) (.i c.hold) (.s c.sel) (.l (c.likes.map Lk.e)) (.i c.apart) (.s c.near) (.s c.fixed) (.s c.at_) (.s b.name) (.s b.zone) (.l (b.marks.map sE)) (.i b.room) (.i b.hold) (.b b.shut)
       (.s f.cps[i].name) (.s f.cps[i].svc) (.i f.cps[i].rank) (.i f.cps[i].born) (.i f.cps[i].room) (.i f.cps[i].hold) (.s f.cps[i].sel) (.l (f.cps[i].likes.map Lk.e)) (.i f.cps[i].apart) (.s f.cps[i].near) (.s f.cps[i].fixed) (.s f.cps[i].at_)) (ap31 i_pFits.d3)=
       some (.again [.b (A1||(sEq f.cps[i].svc c.near&&sEq (zoneOf f f.cps[i].at_) b.zone)),.b n,.i ((A6+(bif sEq f.cps[i].at_ b.name then 1 else 0):Nat):Int),.i (A4+(bif sEq f.cps[i].at_ b.name then f.cps[i].room else 0)),.i (A5+(bif sEq f.cps[i].at_ b.name then f.cps[i].hold else 0)),.b t,.l (f.cps.map Cp.e),.i (f.cps.length:Nat),.i ((i+1:Nat):Int),.b f.pack,.l (f.bts.map Bt.e),.l (f.svs.map Sv.e),.l (f.cps.map Cp.e),
       .s c.name,.s c.svc,.i c.rank,.i c.born,.i c.room,.i c.hold,.s c.sel,.l (c.likes.map Lk.e),.i c.apart,.s c.near,.s c.fixed,.s c.at_,.s b.name,.s b.zone,.l (b.marks.map sE),.i b.room,.i b.hold,.b b.shut]):=by
      intro t n
      simp only[i_pFits.d2,C.B_b,C.S_s,q6]
      cases A1<;>cases sEq f.cps[i].svc c.near<;>cases sEq (zoneOf f f.cps[i].at_) b.zone<;>cases h3:sEq f.cps[i].at_ b.name<;>
       simp only[ja,jZ,jR,jS,jJ,jC,jD,i_pFits.d1,C.S_s,C.I_i,q3,h3,bindBlk_self,apL,i_pFits.d3,w1 hi hlc,w2,w3,w4,Bool.or_true,Bool.or_false,Bool.and_true,Bool.and_false,Bool.true_and,Bool.false_and,Int.add_zero,Nat.add_zero]
     cases h4:sEq f.cps[i].svc c.svc with
     |false=>simp only[jS,Bool.false_and,Bool.or_false,jJ,jC,jD,fin]
     |true=>
      have fin':=fun t:Bool=>fin t true
      cases A3<;>cases h3:sEq f.cps[i].at_ b.name<;>rw[h3] at fin'<;>cases hA:(f.cps[i].apart !=0||c.apart !=0)<;>cases h6:sEq (zoneOf f f.cps[i].at_) b.zone<;>rw[h6] at fin'<;>cases h8:c.apart==2<;>
       simp only[ja,jZ,jR,jS,Bool.true_and,Bool.false_and,Bool.and_true,Bool.and_false,Bool.or_true,Bool.or_false,Bool.false_or,Bool.true_or,jJ,jC,jD,fin'])
  (by simp[i_pFits.d4,Fl.e,Cp.e,Bt.e]) f.cps.length 0 rfl
 have z1:sumN (onP c b) Cp.room f.cps 0=0:=by simp[sumN]
 have z2:sumN (onP c b) Cp.hold f.cps 0=0:=by simp[sumN]
 have z3:cntN (onP c b) f.cps 0=0:=by simp[cntN]
 have z4:∀p:Cp→Bool,anyN p f.cps 0=false:=by simp[anyN]
 simp only[Int.natCast_zero,z1,z2,z3,z4] at h
 exact h
theorem i_pFits_eq (hv:VB f) (hr:0≤c.room∧c.room≤1000) (hh:0≤c.hold∧c.hold≤1000) (ha:0≤c.apart∧c.apart≤2) (o:Bool):i_pFits (f.e++c.e++b.e++[.b o])=some [.i (fitsN f c b (!o):Nat)]:=by
 have h60:=cps_60 hv
 have h:=i_fits_loop hz hc hb hbo hv hr hh ha
 have hsel:=i_pMeets_eq c.sel b hc.2.2.1 hb hbo
 have q0:(c.fixed.toList==(bs #[]).toList)=sEq c.fixed (mkS []):=rfl
 have q1:(c.fixed.toList==b.name.toList)=sEq c.fixed b.name:=rfl
 have q2:(c.near.toList==(bs #[]).toList)=sEq c.near (mkS []):=rfl
 have q3:(c.near.toList==c.svc.toList)=sEq c.near c.svc:=rfl
 have b1:=sumN_le (onP c b) Cp.room (cp_room hv) f.cps.length (by omega)
 have b2:=sumN_le (onP c b) Cp.hold (cp_hold hv) f.cps.length (by omega)
 have w2:w64 (sumN (onP c b) Cp.room f.cps f.cps.length+c.room)=sumN (onP c b) Cp.room f.cps f.cps.length+c.room:=by rw[w64_of (by omega) (by omega)]
 have w3:w64 (sumN (onP c b) Cp.hold f.cps f.cps.length+c.hold)=sumN (onP c b) Cp.hold f.cps f.cps.length+c.hold:=by rw[w64_of (by omega) (by omega)]
 have e6:(10:Int)≤((cntN (onP c b) f.cps f.cps.length:Nat):Int)↔10≤cntN (onP c b) f.cps f.cps.length:=by omega
 simp only[Fl.e,Cp.e,Bt.e,jA,jB,anyN_all] at h hsel
 have far:(!sEq c.near (mkS [])&&(!f.cps.any (nearP f c b)&&!(sEq c.near c.svc&&!f.cps.any (svcP c c.svc))))=farB f c b:=by
  unfold farB
  cases hn:sEq c.near c.svc with
  |true=>rw[(sEq_iff _ _).1 hn];simp
  |false=>simp
 have fin:i_pFits.d7 (.b f.pack) (.l (f.bts.map Bt.e)) (.l (f.svs.map Sv.e)) (.l (f.cps.map Cp.e))
   (.s c.name) (.s c.svc) (.i c.rank) (.i c.born) (.i c.room) (.i c.hold) (.s c.sel) (.l (c.likes.map Lk.e)) (.i c.apart) (.s c.near) (.s c.fixed) (.s c.at_) (.s b.name) (.s b.zone) (.l (b.marks.map sE)) (.i b.room) (.i b.hold) (.b b.shut)=
   some (.ret [.i (((bif !selM c.sel b then 3 else bif f.cps.any (togP f c b) then 4 else bif farB f c b then 5 else
 bif decide (10≤cntN (onP c b) f.cps f.cps.length) then 6 else bif decide (b.room<sumN (onP c b) Cp.room f.cps f.cps.length+c.room) then 7 else bif decide (b.hold<sumN (onP c b) Cp.hold f.cps f.cps.length+c.hold) then 8 else 0:Nat):Nat):Int)]):=by
  simp only[i_pFits.d7,hsel,call1,jI,jC,C.B_b,C.L_l,jW]
  cases selM c.sel b
  ·rfl
  simp only[jZ,jS]
  rw[h]
  simp only[bindBlk_self,apL,jC,jD,i_pFits.d6,C.B_b]
  cases f.cps.any (togP f c b)
  ·simp only[jS]
   have d5:∀e:Bool,i_pFits.d5 (.i (cntN (onP c b) f.cps f.cps.length:Nat)) (.i (sumN (onP c b) Cp.room f.cps f.cps.length)) (.i (sumN (onP c b) Cp.hold f.cps f.cps.length)) (.b e)
     (.s c.name) (.s c.svc) (.i c.rank) (.i c.born) (.i c.room) (.i c.hold) (.s c.sel) (.l (c.likes.map Lk.e)) (.i c.apart) (.s c.near) (.s c.fixed) (.s c.at_) (.s b.name) (.s b.zone) (.l (b.marks.map sE)) (.i b.room) (.i b.hold) (.b b.shut)=
     some (.ret [.i (((bif e then 5 else bif decide (10≤cntN (onP c b) f.cps f.cps.length) then 6 else bif decide (b.room<sumN (onP c b) Cp.room f.cps f.cps.length+c.room) then 7 else bif decide (b.hold<sumN (onP c b) Cp.hold f.cps f.cps.length+c.hold) then 8 else 0:Nat):Nat):Int)]):=by
    intro e
    simp only[i_pFits.d5,C.B_b,C.I_i,w2,w3,ge_iff_le,gt_iff_lt,e6]
    cases e
    ·simp only[jS]
     cases decide (10≤cntN (onP c b) f.cps f.cps.length)
     ·simp only[jS]
      cases decide (b.room<sumN (onP c b) Cp.room f.cps f.cps.length+c.room)
      ·simp only[jS]
       cases decide (b.hold<sumN (onP c b) Cp.hold f.cps f.cps.length+c.hold)<;>rfl
      ·rfl
     ·rfl
    ·rfl
   rw[←far]
   generalize (bif decide (10≤cntN (onP c b) f.cps f.cps.length) then 6 else bif decide (b.room<sumN (onP c b) Cp.room f.cps f.cps.length+c.room) then 7 else bif decide (b.hold<sumN (onP c b) Cp.hold f.cps f.cps.length+c.hold) then 8 else 0:Nat)=N at d5⊢
   simp only[C.S_s,q2,q3]
   cases sEq c.near (mkS [])<;>cases f.cps.any (nearP f c b)<;>cases sEq c.near c.svc<;>cases f.cps.any (svcP c c.svc)<;>
    simp only[jR,jS,jZ,ja,jJ,apL,jC,jD,d5,Bool.and_true,Bool.and_false,Bool.true_and,Bool.false_and]
  ·rfl
 simp only[i_pFits,i_pFits.d9,Fl.e,Cp.e,Bt.e,jA,jB,apL,jC,jD,C.B_b,fitsN]
 generalize (bif !selM c.sel b then 3 else bif f.cps.any (togP f c b) then 4 else bif farB f c b then 5 else
 bif decide (10≤cntN (onP c b) f.cps f.cps.length) then 6 else bif decide (b.room<sumN (onP c b) Cp.room f.cps f.cps.length+c.room) then 7 else bif decide (b.hold<sumN (onP c b) Cp.hold f.cps f.cps.length+c.hold) then 8 else 0:Nat)=N at fin⊢
 cases hs:b.shut<;>rw[hs] at fin<;>cases o<;>cases h1:sEq c.fixed (mkS [])<;>cases h2:sEq c.fixed b.name<;>
  simp only[i_pFits.d8,q0,q1,h1,h2,fin,C.B_b,C.S_s,jR,jS,jZ,ja,Bool.and_true,Bool.and_false,Bool.true_and,Bool.false_and,jJ,bindNrm_ret,apL,jC,jD,jV]<;>rfl
end
end Go.Ev
namespace Go.Ev
def fitsOf (f:Fl) (c b:Str):Nat:=bif validF f then (match f.cps[(cIx f c).toNat]?,f.bts[(bIx f b).toNat]? with
 |some x,some y=>if cIx f c<0∨bIx f b<0 then 9 else fitsN f x y false
 |_,_=>9) else 9
section
variable {f:Fl} (hz:f.Sz 1048576) (cn bn_:Str)
include hz
theorem s_PilotFits_eq:s_PilotFits (f.e++[.s cn,.s bn_])=some [.i (fitsOf f cn bn_:Nat)]:=by
 have h1:=s_l2Copy_eq f cn hz.2.2.1
 have h2:=s_l2Berth_eq f bn_ hz.1.1
 have h3:=s_PilotValid_eq hz
 simp only[Fl.e,jA,jB] at h1 h2 h3
 simp only[s_PilotFits,s_PilotFits.d1,Fl.e,jA,jB,apL,jC,jD,h1,h2,h3,call1,jI,C.I_i,C.B_b,C.L_l,jW,fitsOf]
 cases hv:validF f with
 |false=>simp
 |true=>
  rcases cIx_at f cn with h|⟨i,hi,e1,_⟩
  ·simp[h];split<;>rfl
  rcases bIx_at f bn_ with h|⟨j,hj,e2,_⟩
  ·have:¬((i:Int)<0):=by omega
   simp[e1,h,this,hi];split<;>rfl
  have n1:¬((i:Int)<0):=by omega
  have n2:¬((j:Int)<0):=by omega
  have n3:((i:Int)<(f.cps.length:Int)):=by omega
  have n4:((j:Int)<(f.bts.length:Int)):=by omega
  have m:=List.getElem_mem hi
  replace hv:=vb_of hv
  have hs:=s_l3Fits_eq hz (hz.2.2.2 _ m) (hz.1.2 _ (List.getElem_mem hj)) (valid_bts hv _ (List.getElem_mem hj)) hv (cp_room hv _ m) (cp_hold hv _ m) false
  simp only[Fl.e,Cp.e,Bt.e,jA,jB] at hs
  simp only[e1,e2,n1,n2,n3,n4,decide_true,decide_false,jZ,ja,jR,jS,jX,jY,getD_map' Cp.e hi,getD_map' Bt.e hj,List.getElem?_eq_getElem hi,List.getElem?_eq_getElem hj,or_self,if_false]
  simp only[Cp.e,Bt.e,jC,jD,hs,jI,jV]
theorem i_PilotFits_eq:i_PilotFits (f.e++[.s cn,.s bn_])=some [.i (fitsOf f cn bn_:Nat)]:=by
 have h1:=i_pCopyAt_eq f cn hz.2.2.1
 have h2:=i_pBerthAt_eq f bn_ hz.1.1
 have h3:=i_PilotValid_eq hz
 simp only[Fl.e,jA,jB] at h1 h2 h3
 simp only[i_PilotFits,i_PilotFits.d1,Fl.e,jA,jB,apL,jC,jD,h1,h2,h3,call1,jI,C.I_i,C.B_b,C.L_l,jW,fitsOf]
 cases hv:validF f with
 |false=>simp
 |true=>
  rcases cIx_at f cn with h|⟨i,hi,e1,_⟩
  ·simp[h];split<;>rfl
  rcases bIx_at f bn_ with h|⟨j,hj,e2,_⟩
  ·have:¬((i:Int)<0):=by omega
   simp[e1,h,this,hi];split<;>rfl
  have n1:¬((i:Int)<0):=by omega
  have n2:¬((j:Int)<0):=by omega
  have n3:((i:Int)<(f.cps.length:Int)):=by omega
  have n4:((j:Int)<(f.bts.length:Int)):=by omega
  have m:=List.getElem_mem hi
  replace hv:=vb_of hv
  have hs:=i_pFits_eq hz (hz.2.2.2 _ m) (hz.1.2 _ (List.getElem_mem hj)) (valid_bts hv _ (List.getElem_mem hj)) hv (cp_room hv _ m) (cp_hold hv _ m) (cp_apart hv _ m) true
  simp only[Fl.e,Cp.e,Bt.e,jA,jB,jZ] at hs
  simp only[e1,e2,n1,n2,n3,n4,decide_true,decide_false,jZ,ja,jR,jS,jX,jY,getD_map' Cp.e hi,getD_map' Bt.e hj,List.getElem?_eq_getElem hi,List.getElem?_eq_getElem hj,or_self,if_false]
  simp only[Cp.e,Bt.e,jC,jD,hs,jI,jV]
end
section
variable {f:Fl} (hz:f.Sz 1048576) {c:Cp} (hc:c.Sz 1048576) (hv:VB f) (hr:0≤c.room∧c.room≤1000) (hh:0≤c.hold∧c.hold≤1000) (ha:0≤c.apart∧c.apart≤2)
include hz hc hv hr hh ha
end
end Go.Ev
namespace Go.Ev
theorem bname_ne {b:Bt} (h:berthOk b=true):sEq b.name (mkS [])=false:=name_ne h _ ((sEq_iff _ _).2 rfl)
section
variable {f:Fl} (hz:f.Sz 1048576) {c:Cp} (hc:c.Sz 1048576) (hv:VB f) (hr:0≤c.room∧c.room≤1000) (hh:0≤c.hold∧c.hold≤1000) (ha:0≤c.apart∧c.apart≤2)
include hz hc hv hr hh ha
end
section
variable {f:Fl} (hz:f.Sz 1048576) (cn:Str)
include hz
end
end Go.Ev
namespace Go.Ev
theorem findIx_neg {α:Type} (p:α→Bool):∀(l:List α) (n:Nat),findIx p l n<0→l.any p=false
 |[],_,_=>rfl
 |x::r,n,h=>by
  simp only[findIx] at h
  cases hp:p x with
  |true=>rw[hp,jR] at h;omega
  |false=>rw[hp,jS] at h;simp[hp,findIx_neg p r (n+1) h]
theorem stand_at {f:Fl} (hv:validF f=true) {c:Cp} (hc:c∈f.cps) (h0:sEq c.at_ (mkS [])=false):∃k,∃h:k<f.bts.length,bIx f c.at_=(k:Nat)∧sEq f.bts[k].name c.at_=true:=by
 rcases bIx_at f c.at_ with h|h
 ·obtain ⟨i,hi,rfl⟩:=List.getElem_of_mem hc
  have hq:=findIx_neg _ _ _ h
  simp only[validF,Bool.and_eq_true] at hv
  have:=(allFrom_iff _ _ _).1 hv.2.2.2.2.1 i (Nat.zero_le _) (by omega)
  simp only[cpA,List.getElem?_eq_getElem hi,Bool.and_eq_true,h0,Bool.false_or] at this
  rw[hq] at this
  simp at this
 ·exact h
def wrongB (f:Fl) (c:Cp):Bool:=!sEq c.at_ (mkS [])&&match f.bts[(bIx f c.at_).toNat]? with|some b=>!(fitsN f c b true==0)|none=>false
def wrongL (f:Fl) (i:Nat):List Str:=((f.cps.take i).filter (wrongB f)).map Cp.name
theorem wrongL_succ (f:Fl) {i:Nat} (h:i<f.cps.length):wrongL f (i+1)=bif wrongB f f.cps[i] then wrongL f i++[f.cps[i].name] else wrongL f i:=by
 unfold wrongL
 rw[List.take_succ_eq_append_getElem h,List.filter_append,List.map_append]
 cases hw:wrongB f f.cps[i]<;>simp[hw]
theorem wrongL_len (f:Fl) (i:Nat):(wrongL f i).length≤i:=by
 unfold wrongL
 rw[jW]
 exact Nat.le_trans (List.length_filter_le _ _) (by rw[List.length_take];omega)
def rightOf (f:Fl):List Str:=bif validF f then wrongL f f.cps.length else []
section
variable {f:Fl} (hz:f.Sz 1048576)
include hz
theorem i_PilotRight_eq:i_PilotRight f.e=some [.l ((rightOf f).map sE)]:=by
 have h3:=i_PilotValid_eq hz
 simp only[Fl.e] at h3
 have hlc:f.cps.length<big:=by have:=hz.2.2.1;simp only[big];omega
 simp only[i_PilotRight,i_PilotRight.d3,Fl.e,apL,jC,jD,h3,call1,jI,C.B_b,C.L_l,jW,rightOf]
 cases hv:validF f with
 |false=>rfl
 |true=>
  have h:=run_loop (body:=ap8 i_PilotRight.d1) (S:=fun i=>[C.l (f.cps.map Cp.e),C.i ((f.cps.length:Nat):Int),C.i (i:Nat)]++f.e++[C.l ((wrongL f i).map sE)]) (n:=f.cps.length) (b:=0) (ys:=[C.l ((wrongL f f.cps.length).map sE)])
   (fun i hi=>by
    have e3:((i:Int)<(f.cps.length:Int)):=by omega
    have m:=List.getElem_mem hi
    have hb:=i_pBerthAt_eq f f.cps[i].at_ hz.1.1
    have hn:(((wrongL f i).length:Int)+1≤4294967296):=by have:=wrongL_len f i;have:=hz.2.2.1;omega
    have hn':((wrongL f i).length+1≤4294967296):=by omega
    have q0:(f.cps[i].at_.toList==(bs #[]).toList)=sEq f.cps[i].at_ (mkS []):=rfl
    simp only[Fl.e,jA,jB] at hb
    rw[wrongL_succ f hi]
    simp only[Fl.e,jA,jB,apL,jC,jD,i_PilotRight.d1,C.I_i,C.L_l,C.S_s,C.B_b,jW,jY,getD_map' Cp.e hi,e3,decide_true,jR,jX,w1 hi hlc]
    simp only[Cp.e,jC,jD,C.S_s,q0]
    cases h0:sEq f.cps[i].at_ (mkS []) with
    |true=>simp[wrongB,h0]
    |false=>
     obtain ⟨k,hk,e1,_⟩:=stand_at hv m h0
     have e4:((k:Int)<(f.bts.length:Int)):=by omega
     replace hv:=vb_of hv
     have F1:=i_pFits_eq hz (hz.2.2.2 _ m) (hz.1.2 _ (List.getElem_mem hk)) (valid_bts hv _ (List.getElem_mem hk)) hv (cp_room hv _ m) (cp_hold hv _ m) (cp_apart hv _ m) false
     simp only[Fl.e,Cp.e,Bt.e,jA,jB,ja] at F1
     have fe:(((fitsN f f.cps[i] f.bts[k] true:Nat):Int) !=0)=!(fitsN f f.cps[i] f.bts[k] true==0):=by rw[Bool.eq_iff_iff,bne_iff_ne,Bool.not_eq_true',beq_eq_false_iff_ne];omega
     have hw:wrongB f f.cps[i]=!(fitsN f f.cps[i] f.bts[k] true==0):=by simp[wrongB,h0,e1,hk]
     simp only[hb,e1,call1,jI,jC,C.I_i,jX,decide_true,jR,ja,e4,getD_map' Bt.e hk,jY]
     simp only[Bt.e,jC,jD,F1,call1,jI,C.I_i,fe,hw]
     cases fitsN f f.cps[i] f.bts[k] true==0<;>simp[sE,hn'])
   (by simp[i_PilotRight.d1,Fl.e]) f.cps.length 0 rfl
  simp only[Fl.e,jA,jB,Int.natCast_zero] at h
  have e0:(wrongL f 0).map sE=nils:=rfl
  rw[e0] at h
  simp only[jZ,jS,h]
  simp[i_PilotRight.d2]
theorem s_PilotRight_eq:s_PilotRight f.e=some [.l ((rightOf f).map sE)]:=by
 have h3:=s_PilotValid_eq hz
 simp only[Fl.e] at h3
 have hlc:f.cps.length<big:=by have:=hz.2.2.1;simp only[big];omega
 simp only[s_PilotRight,s_PilotRight.d3,Fl.e,apL,jC,jD,h3,call1,jI,C.B_b,C.L_l,jW,rightOf]
 cases hv:validF f with
 |false=>rfl
 |true=>
  have h:=run_loop (body:=ap6 s_PilotRight.d1) (S:=fun i=>[C.i (i:Nat)]++f.e++[C.l ((wrongL f i).map sE)]) (n:=f.cps.length) (b:=0) (ys:=[C.l ((wrongL f f.cps.length).map sE)])
   (fun i hi=>by
    have e3:((i:Int)<(f.cps.length:Int)):=by omega
    have m:=List.getElem_mem hi
    have hb:=s_l2Berth_eq f f.cps[i].at_ hz.1.1
    have hn':((wrongL f i).length+1≤4294967296):=by have:=wrongL_len f i;have:=hz.2.2.1;omega
    have q0:(f.cps[i].at_.toList==(bs #[]).toList)=sEq f.cps[i].at_ (mkS []):=rfl
    simp only[Fl.e,jA,jB] at hb
    rw[wrongL_succ f hi]
    simp only[Fl.e,jA,jB,apL,jC,jD,s_PilotRight.d1,C.I_i,C.L_l,C.S_s,C.B_b,jW,jY,getD_map' Cp.e hi,e3,decide_true,jR,jX,w1 hi hlc]
    simp only[Cp.e,jC,jD,C.S_s,q0]
    cases h0:sEq f.cps[i].at_ (mkS []) with
    |true=>simp[wrongB,h0]
    |false=>
     obtain ⟨k,hk,e1,_⟩:=stand_at hv m h0
     have e4:((k:Int)<(f.bts.length:Int)):=by omega
     replace hv:=vb_of hv
     have F1:=s_l3Fits_eq hz (hz.2.2.2 _ m) (hz.1.2 _ (List.getElem_mem hk)) (valid_bts hv _ (List.getElem_mem hk)) hv (cp_room hv _ m) (cp_hold hv _ m) true
     simp only[Fl.e,Cp.e,Bt.e,jA,jB] at F1
     have fe:(((fitsN f f.cps[i] f.bts[k] true:Nat):Int) !=0)=!(fitsN f f.cps[i] f.bts[k] true==0):=by rw[Bool.eq_iff_iff,bne_iff_ne,Bool.not_eq_true',beq_eq_false_iff_ne];omega
     have hw:wrongB f f.cps[i]=!(fitsN f f.cps[i] f.bts[k] true==0):=by simp[wrongB,h0,e1,hk]
     simp only[hb,e1,call1,jI,jC,C.I_i,jX,decide_true,jR,ja,e4,getD_map' Bt.e hk,jY]
     simp only[Bt.e,jC,jD,F1,call1,jI,C.I_i,fe,hw]
     cases fitsN f f.cps[i] f.bts[k] true==0<;>simp[sE,hn'])
   (by simp[s_PilotRight.d1,Fl.e]) f.cps.length 0 rfl
  simp only[Fl.e,jA,jB,Int.natCast_zero] at h
  have e0:(wrongL f 0).map sE=nils:=rfl
  rw[e0] at h
  simp only[jZ,jS,h]
  simp[s_PilotRight.d2]
end
end Go.Ev
namespace Go.Ev
end Go.Ev
namespace Go.Ev
end Go.Ev
namespace Go.Ev
end Go.Ev
namespace Go.Ev
end Go.Ev
namespace Go.Ev
end Go.Ev
namespace Go.Ev
end Go.Ev
namespace Go.Ev
theorem ltL {i n:Nat} (h:i<n):decide ((i:Int)<(n:Int))=true:=by simp;omega
end Go.Ev
namespace Go.Ev
theorem snoc_take {α:Type} (e:α→List C) {l:List α} {i:Nat} (h:i<l.length):(l.take i).map e++[e l[i]]=(l.take (i+1)).map e:=by
 rw[List.take_succ_eq_append_getElem h,List.map_append];rfl
theorem s_l2BerthOf_eq {b:Bt} (h:b.marks.length≤1048576):s_l2BerthOf b.e=some b.o:=by
 have:b.marks.length≤4294967296:=by omega
 simp[s_l2BerthOf,s_l2BerthOf.d1,Bt.e,Bt.o,this]
theorem s_l2CopyOf_eq {c:Cp} (h:c.likes.length≤1048576):s_l2CopyOf c.e=some c.o:=by
 have:c.likes.length≤4294967296:=by omega
 simp[s_l2CopyOf,s_l2CopyOf.d1,Cp.e,Cp.o,this]
section
variable {f:Fl} (hz:f.Sz 1048576)
include hz
theorem s_l2Fleet_eq:s_l2Fleet f.e=some f.e:=by
 have hlb:f.bts.length<big:=by have:=hz.1.1;simp only[big];omega
 have hlc:f.cps.length<big:=by have:=hz.2.2.1;simp only[big];omega
 have h1:=run_loop (body:=ap13 s_l2Fleet.d1) (S:=fun i=>[C.i (i:Nat)]++f.e++[C.b false,C.b f.pack,.l nils,.l nils,.l nils,C.l ((f.bts.take i).map Bt.e),C.l (f.svs.map Sv.e),.l nils]) (n:=f.bts.length) (b:=0) (ys:=f.e++[C.b false,C.b f.pack,.l nils,.l nils,.l nils,C.l ((f.bts.take f.bts.length).map Bt.e),C.l (f.svs.map Sv.e),.l nils])
  (fun i hi=>by
   have hc:=s_l2BerthOf_eq (hz.1.2 _ (List.getElem_mem hi)).2.2.1
   have hn:(f.bts.take i).length+1≤4294967296:=by rw[List.length_take];have:=hz.1.1;omega
   have sn:=snoc_take Bt.e hi
   simp only[Bt.e,Bt.o] at hc
   simp only[Fl.e,jA,jB,apL,jC,jD,s_l2Fleet.d1,C.I_i,C.L_l,jW,jY,getD_map' Bt.e hi,ltL hi,decide_true,jR,jX,w1 hi hlb]
   simp only[Bt.e] at sn
   simp only[Bt.e,jC,jD,hc,call6,jI,C.L_l,rows,List.length_cons,List.length_nil,Nat.zero_add,hn,decide_true,jR,sn])
  (by simp[s_l2Fleet.d1,Fl.e]) f.bts.length 0 rfl
 have h2:=run_loop (body:=ap13 s_l2Fleet.d2) (S:=fun i=>[C.i (i:Nat)]++f.e++[C.b false,C.b f.pack,.l nils,.l nils,.l nils,C.l (f.bts.map Bt.e),C.l (f.svs.map Sv.e),C.l ((f.cps.take i).map Cp.e)]) (n:=f.cps.length) (b:=2) (ys:=[C.b false,C.b f.pack,.l nils,.l nils,.l nils,C.l (f.bts.map Bt.e),C.l (f.svs.map Sv.e),C.l ((f.cps.take f.cps.length).map Cp.e)])
  (fun i hi=>by
   have hc:=s_l2CopyOf_eq (hz.2.2.2 _ (List.getElem_mem hi)).2.2.2.2.2.2.1
   have hn:(f.cps.take i).length+1≤4294967296:=by rw[List.length_take];have:=hz.2.2.1;omega
   have sn:=snoc_take Cp.e hi
   simp only[Cp.e,Cp.o] at hc
   simp only[Fl.e,jA,jB,apL,jC,jD,s_l2Fleet.d2,C.I_i,C.L_l,jW,jY,getD_map' Cp.e hi,ltL hi,decide_true,jR,jX,w1 hi hlc]
   simp only[Cp.e] at sn
   simp only[Cp.e,jC,jD,hc,call12,jI,C.L_l,rows,List.length_cons,List.length_nil,Nat.zero_add,hn,decide_true,jR,sn])
  (by simp[s_l2Fleet.d2,Fl.e]) f.cps.length 0 rfl
 have hs:0+f.svs.length≤4294967296:=by have:=hz.2.1.1;omega
 simp only[Fl.e,jA,jB,Int.natCast_zero,List.take_zero,List.map_nil,List.take_length] at h1 h2
 rw[show nils=([]:List (List C)) from rfl] at h1 h2
 simp only[s_l2Fleet,s_l2Fleet.d5,Fl.e,apL,jC,jD,C.L_l,C.B_b,jW,show nils=([]:List (List C)) from rfl,List.length_nil,hs,decide_true,jR,jB]
 rw[h1]
 simp only[bindBlk_self,apL,jC,jD,s_l2Fleet.d4,C.L_l,jW]
 rw[h2]
 simp[s_l2Fleet.d3]
end
end Go.Ev
namespace Go.Ev
theorem bytesLess_trans:∀(a b c:List UInt8),Op.bytesLess a b=true→Op.bytesLess b c=true→Op.bytesLess a c=true
 |_,_,[],_,h2=>by cases ‹List UInt8›<;>simp[Op.bytesLess] at h2
 |_,[],_::_,h1,_=>by simp[Op.bytesLess] at h1
 |[],_::_,_::_,_,_=>by simp[Op.bytesLess]
 |x::a,y::b,z::c,h1,h2=>by
  simp only[Op.bytesLess,Bool.or_eq_true,Bool.and_eq_true,decide_eq_true_eq,beq_iff_eq] at h1 h2⊢
  have lt (p q:UInt8):p<q↔p.toNat<q.toNat:=Iff.rfl
  simp only[lt] at h1 h2⊢
  rcases h1 with h1|⟨rfl,h1⟩
  ·rcases h2 with h2|⟨rfl,h2⟩
   ·left;omega
   ·left;exact h1
  ·rcases h2 with h2|⟨rfl,h2⟩
   ·left;exact h2
   ·right;exact ⟨rfl,bytesLess_trans a b c h1 h2⟩
theorem bytesLess_irr:∀(a:List UInt8),Op.bytesLess a a=false
 |[]=>rfl
 |x::r=>by
  have ih:=bytesLess_irr r
  simp only[Op.bytesLess,ih]
  simp
theorem sLt_irr (a:Str):sLt a a=false:=bytesLess_irr _
theorem sLt_trans {a b c:Str} (h1:sLt a b=true) (h2:sLt b c=true):sLt a c=true:=bytesLess_trans _ _ _ h1 h2
theorem adj_lt {α:Type} {lt:α→α→Bool} {l:List α} (ht:∀a b c,lt a b=true→lt b c=true→lt a c=true) (h:∀i (h:i+1<l.length),lt (l[i]'(by omega)) l[i+1]=true):
  ∀(d i:Nat) (hj:i+d+1<l.length),lt (l[i]'(by omega)) l[i+d+1]=true
 |0,i,hj=>h i hj
 |d+1,i,hj=>ht _ _ _ (adj_lt ht h d i (by omega)) (h (i+d+1) (by omega))
def UniqF (l:List Cp):Prop:=∀(i k:Nat) (hi:i<l.length) (hk:k<l.length),sEq l[i].name l[k].name=true→i=k
theorem names_up {f:Fl} (h:validF f=true) (d i:Nat) (hj:i+d+1<f.cps.length):sLt (f.cps[i]'(by omega)).name f.cps[i+d+1].name=true:=by
 refine adj_lt (lt:=fun a b:Cp=>sLt a.name b.name) (fun a b c=>sLt_trans) (fun i hi=>?_) d i hj
 simp only[validF,Bool.and_eq_true] at h
 have:=(allFrom_iff _ _ _).1 h.2.2.2.2.1 (i+1) (Nat.zero_le _) (by omega)
 have hi':i<f.cps.length:=by omega
 have e:(i+1==0)=false:=rfl
 simp only[cpA,List.getElem?_eq_getElem hi,Nat.add_sub_cancel,List.getElem?_eq_getElem hi',e,Bool.false_or,Bool.and_eq_true] at this
 exact this.2.2.1
theorem uniq_of {f:Fl} (h:validF f=true):UniqF f.cps:=by
 have key:∀(i k:Nat) (hi:i<f.cps.length) (hk:k<f.cps.length),i<k→sEq f.cps[i].name f.cps[k].name=true→False:=by
  intro i k hi hk hlt he
  obtain ⟨d,rfl⟩:∃d,k=i+d+1:=⟨k-i-1,by omega⟩
  have:=names_up h d i hk
  rw[(sEq_iff _ _).1 he,sLt_irr] at this
  exact absurd this (by decide)
 intro i k hi hk he
 rcases Nat.lt_trichotomy i k with h1|h1|h1
 ·exact (key i k hi hk h1 he).elim
 ·exact h1
 ·exact (key k i hk hi h1 (by rw[sEq_comm];exact he)).elim
def inS (g:List Str) (s:Str):Bool:=g.any fun x=>sEq s x
def goC (g:List Str) (c:Cp):Cp:=bif inS g c.name then {c with at_:=mkS []} else c
def goF (f:Fl) (g:List Str):Fl:= {f with cps:=f.cps.map (goC g)}
section
variable {f:Fl} (hz:f.Sz 1048576) (g:List Str) (hg:g.length≤1048576)
include hz hg
end
end Go.Ev
namespace Go.Ev
structure Sp where
 copy:Str
 berth:Str
 gone:List Str
def Sp.e (s:Sp):List C:=[.s s.copy,.s s.berth,.l (s.gone.map sE)]
def Sp.Sz (K:Nat) (s:Sp):Prop:=s.copy.size≤K∧s.berth.size≤K∧SsSz K s.gone
def setAt (f:Fl) (i:Nat) (c:Cp) (b:Str):Fl:= {f with cps:=f.cps.set i {c with at_:=b}}
section
variable {f:Fl} (hz:f.Sz 1048576) {s:Sp} (hs:s.Sz 1048576)
include hz hs
end
end Go.Ev
namespace Go.Ev
theorem setAt_sz {f:Fl} (hz:f.Sz 1048576) {c:Cp} (hc:c.Sz 1048576) {b:Str} (hb:b.size≤1048576) (i:Nat):(setAt f i c b).Sz 1048576:=by
 refine ⟨hz.1,hz.2.1,by simp only[setAt,List.length_set];exact hz.2.2.1,fun x hx=>?_⟩
 simp only[setAt] at hx
 rcases List.mem_or_eq_of_mem_set hx with h|rfl
 ·exact hz.2.2.2 x h
 ·exact ⟨hc.1,hc.2.1,hc.2.2.1,hc.2.2.2.1,hc.2.2.2.2.1,hb,hc.2.2.2.2.2.2⟩
end Go.Ev
namespace Go.Ev
end Go.Ev
namespace Go.Ev
section
variable {f:Fl} (hz:f.Sz 1048576) (g:List Str) (hg:SsSz 1048576 g)
include hz hg
end
end Go.Ev
namespace Go.Ev
section
variable {α:Type} (lt:α→α→Bool)
end
theorem uniq_mem {l:List Cp} (hu:UniqF l) {x y:Cp} (hx:x∈l) (hy:y∈l) (h:sEq x.name y.name=true):x=y:=by
 obtain ⟨i,hi,rfl⟩:=List.getElem_of_mem hx
 obtain ⟨k,hk,rfl⟩:=List.getElem_of_mem hy
 have:=hu i k hi hk h
 subst this;rfl
section
variable {f:Fl} (hz:f.Sz 1048576)
include hz
end
end Go.Ev
namespace Go.Ev
section
variable {f:Fl} (hz:f.Sz 1048576)
include hz
end
end Go.Ev
namespace Go.Ev
end Go.Ev
namespace Go.Ev
structure Known (f:Fl) (l:List Str):Prop where
 len:l.length≤f.cps.length
 mem:∀s,s∈l→∃d,d∈f.cps∧d.name=s
theorem cIx_name {f:Fl} (hu:UniqF f.cps) {d:Cp} (hd:d∈f.cps):∃k,∃hk:k<f.cps.length,cIx f d.name=(k:Nat)∧f.cps[k]=d:=by
 rcases cIx_at f d.name with h|⟨k,hk,h,e⟩
 ·have:=findIx_neg _ _ _ h
  have h2:f.cps.any (fun x:Cp=>sEq x.name d.name)=true:=List.any_eq_true.2 ⟨d,hd,(sEq_iff _ _).2 rfl⟩
  rw[this] at h2;cases h2
 ·exact ⟨k,hk,h,uniq_mem hu (List.getElem_mem hk) hd e⟩
theorem Known.sz {f:Fl} {l:List Str} (h:Known f l) (hz:f.Sz 1048576):SsSz 1048576 l:=by
 refine ⟨Nat.le_trans h.len hz.2.2.1,fun s hs=>?_⟩
 obtain ⟨d,hd,rfl⟩:=h.mem s hs
 exact (hz.2.2.2 d hd).1
theorem Known.ix {f:Fl} {l:List Str} (h:Known f l) (hu:UniqF f.cps):∀j (hj:j<l.length),∃k,∃hk:k<f.cps.length,cIx f l[j]=(k:Nat)∧sEq f.cps[k].name l[j]=true:=by
 intro j hj
 obtain ⟨d,hd,e⟩:=h.mem l[j] (List.getElem_mem hj)
 obtain ⟨k,hk,h1,h2⟩:=cIx_name hu hd
 exact ⟨k,hk,by rw[←e];exact h1,by rw[h2,e];exact (sEq_iff _ _).2 rfl⟩
end Go.Ev
namespace Go.Ev
section
variable {f:Fl} (hz:f.Sz 1048576) {c:Cp} (hc:c.Sz 1048576) {b:Bt} (hb:b.Sz 1048576) (hbo:berthOk b=true) (hv:validF f=true) (hr:0≤c.room∧c.room≤1000) (hh:0≤c.hold∧c.hold≤1000)
include hz hc hb hbo hv hr hh
end
end Go.Ev
namespace Go.Ev
section
variable {f:Fl} (hz:f.Sz 1048576) {c:Cp} (hc:c.Sz 1048576) {b:Bt} (hb:b.Sz 1048576) (hbo:berthOk b=true) (hv:validF f=true) (hr:0≤c.room∧c.room≤1000) (hh:0≤c.hold∧c.hold≤1000) (ha:0≤c.apart∧c.apart≤2)
include hz hc hb hbo hv hr hh ha
end
end Go.Ev
namespace Go.Ev
section
variable {f:Fl} (hz:f.Sz 1048576) (cn bn:Str)
include hz
end
end Go.Ev
namespace Go.Ev
theorem bnames_up {f:Fl} (h:validF f=true) (d i:Nat) (hj:i+d+1<f.bts.length):sLt (f.bts[i]'(by omega)).name f.bts[i+d+1].name=true:=by
 refine adj_lt (lt:=fun a b:Bt=>sLt a.name b.name) (fun a b c=>sLt_trans) (fun i hi=>?_) d i hj
 simp only[validF,Bool.and_eq_true] at h
 have:=(allFrom_iff _ _ _).1 h.2.2.2.2.2.1 (i+1) (Nat.zero_le _) (by omega)
 have hi':i<f.bts.length:=by omega
 have e:(i+1==0)=false:=rfl
 simp only[btA,List.getElem?_eq_getElem hi,Nat.add_sub_cancel,List.getElem?_eq_getElem hi',e,Bool.false_or,Bool.and_eq_true] at this
 exact this.2
theorem bIx_name {f:Fl} (h:validF f=true) {b:Bt} (hb:b∈f.bts):∃k,∃hk:k<f.bts.length,bIx f b.name=(k:Nat)∧f.bts[k]=b:=by
 have key:∀(i k:Nat) (hi:i<f.bts.length) (hk:k<f.bts.length),i<k→sEq f.bts[i].name f.bts[k].name=true→False:=by
  intro i k hi hk hlt he
  obtain ⟨d,rfl⟩:∃d,k=i+d+1:=⟨k-i-1,by omega⟩
  have:=bnames_up h d i hk
  rw[(sEq_iff _ _).1 he,sLt_irr] at this
  exact absurd this (by decide)
 rcases bIx_at f b.name with h1|⟨k,hk,h1,e⟩
 ·have:=findIx_neg _ _ _ h1
  have h2:f.bts.any (fun x:Bt=>sEq x.name b.name)=true:=List.any_eq_true.2 ⟨b,hb,(sEq_iff _ _).2 rfl⟩
  rw[this] at h2;cases h2
 ·obtain ⟨j,hj,rfl⟩:=List.getElem_of_mem hb
  refine ⟨k,hk,h1,?_⟩
  rcases Nat.lt_trichotomy k j with q|q|q
  ·exact (key k j hk hj q e).elim
  ·subst q;rfl
  ·exact (key j k hj hk q (by rw[sEq_comm];exact e)).elim
theorem fe (f:Fl):f.e=[.b f.pack,.l (f.bts.map Bt.e),.l (f.svs.map Sv.e),.l (f.cps.map Cp.e)]:=rfl
section
variable {f:Fl} (hz:f.Sz 1048576) {c:Cp} (hc:c.Sz 1048576) (hv:validF f=true) (hr:0≤c.room∧c.room≤1000) (hh:0≤c.hold∧c.hold≤1000) (ha:0≤c.apart∧c.apart≤2)
include hz hc hv hr hh ha
end
end Go.Ev
namespace Go.Ev
abbrev Stp:=Str×Str×List Str
section
variable {f:Fl} (hz:f.Sz 1048576) (hv:validF f=true)
include hz hv
end
end Go.Ev
namespace Go.Ev
def atP (nm:Str) (x:Cp):Bool:=sEq x.at_ nm
theorem usedR_eq {l:List Cp} (nm:Str) (hl:∀x,x∈l→0≤x.room∧x.room≤1000) (h60:l.length≤60):∀i,i≤l.length→usedR l nm i=sumN (atP nm) Cp.room l i
 |0,_=>by simp[usedR,sumN]
 |i+1,h=>by
  have hi:i<l.length:=by omega
  have ih:=usedR_eq nm hl h60 i (by omega)
  have hb:=sumN_le (atP nm) Cp.room hl i (by omega)
  have hx:=hl _ (List.getElem_mem hi)
  simp only[usedR,List.getElem?_eq_getElem hi,ih]
  rw[sumN_succ (atP nm) Cp.room hi]
  show (bif atP nm l[i] then w64 (sumN (atP nm) Cp.room l i+l[i].room) else sumN (atP nm) Cp.room l i)=_
  cases atP nm l[i] with
  |true=>simp only[jR];rw[w64_of (by omega) (by omega)]
  |false=>simp
theorem usedH_eq {l:List Cp} (nm:Str) (hl:∀x,x∈l→0≤x.hold∧x.hold≤1000) (h60:l.length≤60):∀i,i≤l.length→usedH l nm i=sumN (atP nm) Cp.hold l i
 |0,_=>by simp[usedH,sumN]
 |i+1,h=>by
  have hi:i<l.length:=by omega
  have ih:=usedH_eq nm hl h60 i (by omega)
  have hb:=sumN_le (atP nm) Cp.hold hl i (by omega)
  have hx:=hl _ (List.getElem_mem hi)
  simp only[usedH,List.getElem?_eq_getElem hi,ih]
  rw[sumN_succ (atP nm) Cp.hold hi]
  show (bif atP nm l[i] then w64 (sumN (atP nm) Cp.hold l i+l[i].hold) else sumN (atP nm) Cp.hold l i)=_
  cases atP nm l[i] with
  |true=>simp only[jR];rw[w64_of (by omega) (by omega)]
  |false=>simp
theorem standC_eq (l:List Cp) (nm:Str):∀i,i≤l.length→standC l nm i=cntN (atP nm) l i
 |0,_=>by simp[standC,cntN]
 |i+1,h=>by
  have hi:i<l.length:=by omega
  have ih:=standC_eq l nm i (by omega)
  simp only[standC,List.getElem?_eq_getElem hi,ih,cntN_succ (atP nm) hi]
  show (bif atP nm l[i] then _ else _)=_
  cases atP nm l[i]<;>simp
def sumL (p:Cp→Bool) (g:Cp→Int) (l:List Cp):Int:=(l.map fun x=>bif p x then g x else 0).sum
theorem sumN_all (p:Cp→Bool) (g:Cp→Int) (l:List Cp):sumN p g l l.length=sumL p g l:=by simp[sumN,sumL]
theorem cntN_all (p:Cp→Bool) (l:List Cp):((cntN p l l.length:Nat):Int)=sumL p (fun _=>1) l:=by
 simp only[cntN,List.take_length,sumL]
 induction l with
 |nil=>rfl
 |cons x r ih=>
  simp only[List.countP_cons,List.map_cons,List.sum_cons,←ih]
  cases p x<;>simp<;>omega
theorem sumL_le {p q:Cp→Bool} {g:Cp→Int}:∀ {l m:List Cp},l.length=m.length→(∀i (h1:i<l.length) (h2:i<m.length),(bif p l[i] then g l[i] else 0)≤(bif q m[i] then g m[i] else 0))→sumL p g l≤sumL q g m
 |[],[],_,_=>Int.le_refl _
 |[],_::_,h,_=>by simp at h
 |_::_,[],h,_=>by simp at h
 |x::l,y::m,hl,h=>by
  have h0:=h 0 (by simp) (by simp)
  have ih:=sumL_le (p:=p) (q:=q) (g:=g) (l:=l) (m:=m) (by simpa using hl) fun i h1 h2=>by
   have:=h (i+1) (by simpa using h1) (by simpa using h2)
   simpa using this
  simp only[sumL,List.map_cons,List.sum_cons] at*
  simp only[List.getElem_cons_zero] at h0
  omega
theorem sumL_set {p:Cp→Bool} {g:Cp→Int}:∀ {l:List Cp} {i:Nat} (h:i<l.length) (y:Cp),sumL p g (l.set i y)=sumL p g l-(bif p l[i] then g l[i] else 0)+(bif p y then g y else 0)
 |x::l,0,_,y=>by simp only[List.set_cons_zero,sumL,List.map_cons,List.sum_cons,List.getElem_cons_zero];omega
 |x::l,i+1,h,y=>by
  have ih:=sumL_set (p:=p) (g:=g) (l:=l) (i:=i) (by simpa using h) y
  simp only[List.set_cons_succ,sumL,List.map_cons,List.sum_cons,List.getElem_cons_succ] at*
  omega
structure VF (f:Fl):Prop where
 n12:f.bts.length≤12
 n30:f.svs.length≤30
 n60:f.cps.length≤60
 sv:allFrom (svA f) 0 f.svs.length=true
 cp:∀i (h:i<f.cps.length),copyOk f.cps[i]=true∧f.svs.any (fun s=>sEq s.name f.cps[i].svc)=true∧(∀h':0<i,sLt (f.cps[i-1]'(by omega)).name f.cps[i].name=true)∧(sEq f.cps[i].at_ (mkS [])=true∨f.bts.any (fun b=>sEq b.name f.cps[i].at_)=true)
 bt:allFrom (btA f) 0 f.bts.length=true
 fit:∀b,b∈f.bts→sumL (atP b.name) Cp.room f.cps≤b.room∧sumL (atP b.name) Cp.hold f.cps≤b.hold∧sumL (atP b.name) (fun _=>1) f.cps≤10
theorem used_of {f:Fl} (hv:VB f) {b:Bt} (hb:b∈f.bts):used f b.name=(sumL (atP b.name) Cp.room f.cps,sumL (atP b.name) Cp.hold f.cps):=by
 have h1:=usedR_eq b.name (cp_room hv) hv.n60 f.cps.length (Nat.le_refl _)
 have h2:=usedH_eq b.name (cp_hold hv) hv.n60 f.cps.length (Nat.le_refl _)
 rw[sumN_all] at h1 h2
 have hx:¬bIx f b.name<0:=by
  rcases bIx_at f b.name with h|⟨k,hk,h,_⟩
  ·have:=findIx_neg _ _ _ h
   have h3:f.bts.any (fun x:Bt=>sEq x.name b.name)=true:=List.any_eq_true.2 ⟨b,hb,(sEq_iff _ _).2 rfl⟩
   rw[this] at h3;cases h3
  ·omega
 have hn:sEq b.name (mkS [])=false:=bname_ne (hv.bb b hb)
 simp only[used,hn,hx,decide_false,Bool.or_self,jS,h1,h2]
theorem vf_of {f:Fl} (h:validF f=true):VF f:=by
 have hv:=vb_of h
 have h0:=h
 simp only[validF,Bool.and_eq_true,decide_eq_true_eq] at h
 obtain ⟨a1,a2,a3,a4,a5,a6,a7⟩:=h
 refine ⟨a1,a2,a3,a4,fun i hi=>?_,a6,fun b hb=>?_⟩
 ·have:=(allFrom_iff _ _ _).1 a5 i (Nat.zero_le _) (by omega)
  simp only[cpA,List.getElem?_eq_getElem hi,Bool.and_eq_true,Bool.or_eq_true] at this
  refine ⟨this.1,this.2.1,fun h'=>?_,this.2.2.2⟩
  rcases this.2.2.1 with q|q
  ·rw[beq_iff_eq] at q;omega
  ·have hi1:i-1<f.cps.length:=by omega
   rw[List.getElem?_eq_getElem hi1] at q
   exact q
 ·obtain ⟨i,hi,rfl⟩:=List.getElem_of_mem hb
  have:=(allFrom_iff _ _ _).1 a7 i (Nat.zero_le _) (by omega)
  simp only[fitA,List.getElem?_eq_getElem hi,Bool.and_eq_true,decide_eq_true_eq,used_of hv hb] at this
  have hs:=cntN_all (atP f.bts[i].name) f.cps
  rw[←standC_eq f.cps _ f.cps.length (Nat.le_refl _)] at hs
  exact ⟨this.1,this.2.1,by omega⟩
theorem valid_vf {f:Fl} (h:VF f):validF f=true:=by
 have hbb:∀b,b∈f.bts→berthOk b=true:=fun b hb=>by
  obtain ⟨i,hi,rfl⟩:=List.getElem_of_mem hb
  have:=(allFrom_iff _ _ _).1 h.bt i (Nat.zero_le _) (by omega)
  simp only[btA,List.getElem?_eq_getElem hi,Bool.and_eq_true] at this
  exact this.1
 have hv:VB f:=by
  refine ⟨h.n60,fun x hx=>?_,hbb⟩
  obtain ⟨i,hi,rfl⟩:=List.getElem_of_mem hx
  have:=(h.cp i hi).1
  simp only[copyOk,within,Bool.and_eq_true,decide_eq_true_eq] at this
  exact ⟨this.2.2.2.1,this.2.2.2.2.1,this.2.2.2.2.2.2.1,this.2.1,this.2.2.1⟩
 simp only[validF,Bool.and_eq_true,decide_eq_true_eq]
 refine ⟨h.n12,h.n30,h.n60,h.sv,(allFrom_iff _ _ _).2 fun i _ hi=>?_,h.bt,(allFrom_iff _ _ _).2 fun i _ hi=>?_⟩
 ·have hi:i<f.cps.length:=by omega
  obtain ⟨c1,c2,c3,c4⟩:=h.cp i hi
  simp only[cpA,List.getElem?_eq_getElem hi,Bool.and_eq_true,Bool.or_eq_true,beq_iff_eq]
  refine ⟨c1,c2,?_,c4⟩
  rcases Nat.eq_zero_or_pos i with q|q
  ·exact .inl q
  ·have hi1:i-1<f.cps.length:=by omega
   rw[List.getElem?_eq_getElem hi1]
   exact .inr (c3 q)
 ·have hi:i<f.bts.length:=by omega
  have hb:=List.getElem_mem hi
  obtain ⟨c1,c2,c3⟩:=h.fit _ hb
  have hs:=cntN_all (atP f.bts[i].name) f.cps
  rw[←standC_eq f.cps _ f.cps.length (Nat.le_refl _)] at hs
  simp only[fitA,List.getElem?_eq_getElem hi,Bool.and_eq_true,decide_eq_true_eq,used_of hv hb]
  exact ⟨c1,c2,by omega⟩
theorem goC_name (g:List Str) (c:Cp):(goC g c).name=c.name∧(goC g c).svc=c.svc∧copyOk (goC g c)=copyOk c∧(goC g c).rank=c.rank∧(goC g c).room=c.room∧(goC g c).hold=c.hold:=by
 unfold goC;cases inS g c.name<;>exact ⟨rfl,rfl,rfl,rfl,rfl,rfl⟩
theorem goF_valid {f:Fl} (h:VF f) (g:List Str):VF (goF f g):=by
 have hl:(goF f g).cps.length=f.cps.length:=by simp[goF]
 have hg:∀i (h1:i<(goF f g).cps.length) (h2:i<f.cps.length),(goF f g).cps[i]=goC g f.cps[i]:=fun i h1 h2=>by simp[goF]
 refine ⟨h.n12,h.n30,by rw[hl];exact h.n60,h.sv,fun i hi=>?_,h.bt,fun b hb=>?_⟩
 ·have hi':i<f.cps.length:=by omega
  obtain ⟨c1,c2,c3,c4⟩:=h.cp i hi'
  rw[hg i hi hi']
  obtain ⟨e1,e2,e3,_⟩:=goC_name g f.cps[i]
  refine ⟨by rw[e3];exact c1,by rw[e2];exact c2,fun h'=>?_,?_⟩
  ·rw[hg (i-1) (by omega) (by omega),e1,(goC_name g _).1]
   exact c3 h'
  ·unfold goC
   cases inS g f.cps[i].name with
   |false=>exact c4
   |true=>exact .inl ((sEq_iff _ _).2 rfl)
 ·obtain ⟨c1,c2,c3⟩:=h.fit b hb
  have hbo:sEq (mkS []) b.name=false:=by
   have:berthOk b=true:=by
    obtain ⟨i,hi,rfl⟩:=List.getElem_of_mem hb
    have hi':i<f.bts.length:=hi
    have:=(allFrom_iff _ _ _).1 h.bt i (Nat.zero_le _) (by omega)
    simp only[btA,List.getElem?_eq_getElem hi',Bool.and_eq_true] at this
    exact this.1
   rw[sEq_comm];exact bname_ne this
  have key:∀(w:Cp→Int),(∀x,x∈f.cps→0≤w x)→(∀x,w (goC g x)=w x)→sumL (atP b.name) w (goF f g).cps≤sumL (atP b.name) w f.cps:=fun w hw he=>
   sumL_le hl fun i h1 h2=>by
    rw[hg i h1 h2,he]
    have:=hw _ (List.getElem_mem h2)
    unfold goC atP
    cases inS g f.cps[i].name with
    |false=>exact Int.le_refl _
    |true=>
     simp only[jR,hbo,jS]
     cases sEq f.cps[i].at_ b.name<;>simp<;>omega
  have hcb:∀x,x∈f.cps→0≤x.room∧0≤x.hold:=fun x hx=>by
   obtain ⟨i,hi,rfl⟩:=List.getElem_of_mem hx
   have:=(h.cp i hi).1
   simp only[copyOk,within,Bool.and_eq_true,decide_eq_true_eq] at this
   exact ⟨this.2.2.2.1.1,this.2.2.2.2.1.1⟩
  have k1:=key Cp.room (fun x hx=>(hcb x hx).1) fun x=>(goC_name g x).2.2.2.2.1
  have k2:=key Cp.hold (fun x hx=>(hcb x hx).2) fun x=>(goC_name g x).2.2.2.2.2
  have k3:=key (fun _=>1) (fun _ _=>by decide) fun _=>rfl
  exact ⟨by omega,by omega,by omega⟩
theorem setAt_valid {f:Fl} (h:VF f) {i:Nat} (hi:i<f.cps.length) (hw:sEq f.cps[i].at_ (mkS [])=true) {b:Bt} (hb:b∈f.bts) (hf:fitsN f f.cps[i] b false=0):VF (setAt f i f.cps[i] b.name):=by
 have hv:=valid_vf h
 have hu:=uniq_of hv
 have hvb:=vb_of hv
 have hl:(setAt f i f.cps[i] b.name).cps.length=f.cps.length:=by simp[setAt]
 have hg:∀k (h1:k<(setAt f i f.cps[i] b.name).cps.length) (h2:k<f.cps.length),(setAt f i f.cps[i] b.name).cps[k]=if i=k then {f.cps[i] with at_:=b.name} else f.cps[k]:=fun k h1 h2=>by
  simp only[setAt,List.getElem_set]
 have hbo:=hvb.bb b hb
 have hbn:=bname_ne hbo
 have hon:∀x,x∈f.cps→onP f.cps[i] b x=atP b.name x:=fun x hx=>by
  unfold onP oth atP
  cases q:sEq x.at_ b.name with
  |false=>simp
  |true=>
   have q1:sEq x.at_ (mkS [])=false:=name_ne hbo _ q
   have q2:sEq x.name f.cps[i].name=false:=by
    cases q3:sEq x.name f.cps[i].name with
    |false=>rfl
    |true=>
     have:=uniq_mem hu hx (List.getElem_mem hi) q3
     subst this
     rw[hw] at q1;cases q1
   simp[q1,q2]
 have hsum:∀w:Cp→Int,sumN (onP f.cps[i] b) w f.cps f.cps.length=sumL (atP b.name) w f.cps:=fun w=>by
  rw[sumN_all]
  unfold sumL
  congr 1
  exact List.map_congr_left fun x hx=>by rw[hon x hx]
 have hcnt:((cntN (onP f.cps[i] b) f.cps f.cps.length:Nat):Int)=sumL (atP b.name) (fun _=>1) f.cps:=by
  rw[cntN_all,←sumN_all,hsum]
 have hf3:cntN (onP f.cps[i] b) f.cps f.cps.length<10∧¬b.room<sumN (onP f.cps[i] b) Cp.room f.cps f.cps.length+f.cps[i].room∧¬b.hold<sumN (onP f.cps[i] b) Cp.hold f.cps f.cps.length+f.cps[i].hold:=by
  unfold fitsN at hf
  cases q1:b.shut&&!false<;>rw[q1] at hf<;>simp only[jR,jS] at hf
  ·cases q2: !sEq f.cps[i].fixed (mkS [])&&!sEq f.cps[i].fixed b.name<;>rw[q2] at hf<;>simp only[jR,jS] at hf
   ·cases q3: !selM f.cps[i].sel b<;>rw[q3] at hf<;>simp only[jR,jS] at hf
    ·cases q4:f.cps.any (togP f f.cps[i] b)<;>rw[q4] at hf<;>simp only[jR,jS] at hf
     ·cases q5:farB f f.cps[i] b<;>rw[q5] at hf<;>simp only[jR,jS] at hf
      ·cases q6:decide (10≤cntN (onP f.cps[i] b) f.cps f.cps.length)<;>rw[q6] at hf<;>simp only[jR,jS] at hf
       ·cases q7:decide (b.room<sumN (onP f.cps[i] b) Cp.room f.cps f.cps.length+f.cps[i].room)<;>rw[q7] at hf<;>simp only[jR,jS] at hf
        ·cases q8:decide (b.hold<sumN (onP f.cps[i] b) Cp.hold f.cps f.cps.length+f.cps[i].hold)<;>rw[q8] at hf<;>simp only[jR,jS] at hf
         ·simp only[decide_eq_false_iff_not] at q6 q7 q8
          exact ⟨by omega,q7,q8⟩
         ·omega
        ·omega
       ·omega
      ·omega
     ·omega
    ·omega
   ·omega
  ·omega
 obtain ⟨f1,f2,f3⟩:=hf3
 rw[hsum] at f2 f3
 refine ⟨h.n12,h.n30,by rw[hl];exact h.n60,h.sv,fun k hk=>?_,h.bt,fun b' hb'=>?_⟩
 ·have hk':k<f.cps.length:=by omega
  obtain ⟨c1,c2,c3,c4⟩:=h.cp k hk'
  have en:∀m (h1:m<(setAt f i f.cps[i] b.name).cps.length) (h2:m<f.cps.length),(setAt f i f.cps[i] b.name).cps[m].name=f.cps[m].name:=fun m h1 h2=>by
   rw[hg m h1 h2];split
   ·rename_i e;subst e;rfl
   ·rfl
  refine ⟨?_,?_,fun h'=>?_,?_⟩
  ·rw[hg k hk hk'];split
   ·rename_i e;subst e;exact c1
   ·exact c1
  ·rw[hg k hk hk'];split
   ·rename_i e;subst e;exact c2
   ·exact c2
  ·rw[en k hk hk',en (k-1) (by omega) (by omega)]
   exact c3 h'
  ·rw[hg k hk hk'];split
   ·exact .inr (List.any_eq_true.2 ⟨b,hb,(sEq_iff _ _).2 rfl⟩)
   ·exact c4
 ·obtain ⟨c1,c2,c3⟩:=h.fit b' hb'
  have hbo':=hvb.bb b' hb'
  have h0:atP b'.name f.cps[i]=false:=by
   unfold atP
   rw[(sEq_iff _ _).1 hw,sEq_comm]
   exact bname_ne hbo'
  have hset:∀w:Cp→Int,(w {f.cps[i] with at_:=b.name}=w f.cps[i])→sumL (atP b'.name) w (setAt f i f.cps[i] b.name).cps=sumL (atP b'.name) w f.cps+(bif sEq b.name b'.name then w f.cps[i] else 0):=fun w he=>by
   show sumL (atP b'.name) w (f.cps.set i _)=_
   rw[sumL_set hi,h0,he]
   simp only[jS,atP]
   omega
  rw[hset Cp.room rfl,hset Cp.hold rfl,hset (fun _=>1) rfl]
  cases q:sEq b.name b'.name with
  |false=>simp only[jS,Int.add_zero];exact ⟨c1,c2,c3⟩
  |true=>
   have:b'=b:=by
    obtain ⟨j,hj,j1,j2⟩:=bIx_name hv hb
    obtain ⟨j',hj',j1',j2'⟩:=bIx_name hv hb'
    rw[(sEq_iff _ _).1 q,j1'] at j1
    have:j'=j:=by omega
    subst this
    rw[←j2,←j2']
   subst this
   simp only[jR]
   exact ⟨by omega,by omega,by omega⟩
end Go.Ev
namespace Go.Ev
end Go.Ev
namespace Go.Ev
def plF (f:Fl) (x:Stp):Fl:=match f.cps[(cIx f x.1).toNat]? with|some c=>setAt f (cIx f x.1).toNat c x.2.1|none=>f
structure First (f:Fl) (x:Stp) where
 i:Nat
 hi:i<f.cps.length
 b:Bt
 hb:b∈f.bts
 e:x=(f.cps[i].name,b.name,[])
 ix:cIx f f.cps[i].name=(i:Nat)
 w:sEq f.cps[i].at_ (mkS [])=true
 fit:fitsN f f.cps[i] b false=0
 put:plF f x=setAt f i f.cps[i] b.name
theorem First.sz {f:Fl} {x:Stp} (F:First f x) (hz:f.Sz 1048576):(plF f x).Sz 1048576:=by
 rw[F.put]
 exact setAt_sz hz (hz.2.2.2 _ (List.getElem_mem F.hi)) (hz.1.2 _ F.hb).1 _
end Go.Ev
namespace Go.Ev
section
variable {f:Fl} (hz:f.Sz 1048576)
include hz
end
section
variable {f:Fl} {s:List Sp} (hv:VF f) (hz:f.Sz 1048576) (hs:s.length≤60)
include hv hz hs
end
end Go.Ev
namespace Go.Ev
end Go.Ev
namespace Go.Ev
end Go.Ev
namespace Go.Ev
def BY (bs:List (List C)):Prop:=∀r,r∈bs→∃n:Int,r=[.i n]∧0≤n∧n≤255
theorem BY.get {bs:List (List C)} (h:BY bs) (k:Nat):0≤((bs.getD k []).getD 0 .nil).I∧((bs.getD k []).getD 0 .nil).I≤255:=by
 have hr:bs.getD k []=[]∨bs.getD k []∈bs:=by
  rcases Nat.lt_or_ge k bs.length with h|h
  ·right
   have:bs.getD k []=bs[k]:=by rw[List.getD_eq_getElem?_getD,List.getElem?_eq_getElem h];rfl
   rw[this];exact List.getElem_mem h
  ·left
   rw[List.getD_eq_getElem?_getD,List.getElem?_eq_none h];rfl
 generalize bs.getD k []=r at hr
 rcases hr with rfl|hr
 ·exact ⟨Int.le_refl 0,by decide⟩
 ·obtain ⟨n,rfl,h0,h1⟩:=h r hr
  exact ⟨h0,h1⟩
theorem xor_ok {x y:Int} (hx:0≤x∧x<1152921504606846976) (hy:0≤y∧y<1152921504606846976):0≤w64 ((BitVec.ofInt (IntKind.bits .i64) x^^^BitVec.ofInt (IntKind.bits .i64) y).toNat:Int)∧w64 ((BitVec.ofInt (IntKind.bits .i64) x^^^BitVec.ofInt (IntKind.bits .i64) y).toNat:Int)<1152921504606846976:=by
 have e:∀z:Int,0≤z∧z<1152921504606846976→(BitVec.ofInt (IntKind.bits .i64) z).toNat=z.toNat:=fun z hz=>by
  rw[BitVec.toNat_ofInt]
  have:(2:Int)^IntKind.bits .i64=18446744073709551616:=by decide
  have h2:((2^IntKind.bits .i64:Nat):Int)=18446744073709551616:=by decide
  rw[h2,Int.emod_eq_of_lt hz.1 (by omega)]
 have h:(BitVec.ofInt (IntKind.bits .i64) x^^^BitVec.ofInt (IntKind.bits .i64) y).toNat<2^60:=by
  rw[BitVec.toNat_xor,e x hx,e y hy]
  exact Nat.xor_lt_two_pow (by omega) (by omega)
 generalize (BitVec.ofInt (IntKind.bits .i64) x^^^BitVec.ofInt (IntKind.bits .i64) y).toNat=m at*
 have:(2:Nat)^60=1152921504606846976:=by decide
 rw[w64_of (by omega) (by omega)]
 omega
theorem pk_ok {bs:List (List C)} (hb:BY bs) (hl:bs.length≤2000) {p n:Int} (h0:0≤p) (h1:p≤1125899906842624) (hn:1≤n) (hn2:n≤4294967296):
  ∃k:Nat,(k:Int)<n∧s_l1Rd_pick [.i n,.l bs,.i p]=some [.i k,.l bs,.i (p+1)]:=by
 have w1:w64 (p+1)=p+1:=w64_of (by omega) (by omega)
 have w2:w64 (p+1-1)=p:=by rw[show p+1-1=p by omega];exact w64_of (by omega) (by omega)
 have n1:¬n<1:=by omega
 have n2:(n !=0)=true:=by rw[bne_iff_ne];omega
 simp only[s_l1Rd_pick,s_l1Rd_pick.d1,apL,jC,jD,C.I_i,C.L_l,w1,w2,n1,n2,decide_false,ja,jR]
 by_cases hz:bs.length=0
 ·refine ⟨0,by omega,?_⟩
  simp[hz]
 have hz1:(((bs.length:Nat):Int)==0)=false:=by rw[beq_eq_false_iff_ne];omega
 have hz2:(((bs.length:Nat):Int) !=0)=true:=by rw[bne_iff_ne];omega
 have key:∀z:Int,0≤z→∃k:Nat,(k:Int)<n∧z.tmod n=(k:Int):=fun z hz=>by
  have h1:0≤z.tmod n:=Int.tmod_nonneg _ hz
  have h2:z.tmod n<n:=Int.tmod_lt_of_pos _ (by omega)
  exact ⟨(z.tmod n).toNat,by omega,by omega⟩
 by_cases hp:p<(bs.length:Int)
 ·obtain ⟨g0,g1⟩:=hb.get p.toNat
  have w3:w64 ((bs.getD p.toNat []).getD 0 .nil).I=((bs.getD p.toNat []).getD 0 .nil).I:=w64_of (by omega) (by omega)
  obtain ⟨k,k1,k2⟩:=key _ g0
  refine ⟨k,k1,?_⟩
  simp only[hz1,hp,h0,decide_true,jR,jS,w3,k2,jV]
 ·have w4:w64 (p*7)=p*7:=w64_of (by omega) (by omega)
  have w5:w64 (p*7+3)=p*7+3:=w64_of (by omega) (by omega)
  have m1:0≤p.tmod bs.length∧p.tmod bs.length<bs.length:=⟨Int.tmod_nonneg _ h0,Int.tmod_lt_of_pos _ (by omega)⟩
  have m2:0≤(p*7+3).tmod bs.length∧(p*7+3).tmod bs.length<bs.length:=⟨Int.tmod_nonneg _ (by omega),Int.tmod_lt_of_pos _ (by omega)⟩
  simp only[hz1,hz2,hp,w4,w5,m1.1,m1.2,m2.1,m2.2,decide_true,decide_false,jR,jS]
  obtain ⟨a0,a1⟩:=hb.get (p.tmod bs.length).toNat
  obtain ⟨b0,b1⟩:=hb.get ((p*7+3).tmod bs.length).toNat
  generalize ((bs.getD (p.tmod bs.length).toNat []).getD 0 .nil).I=a at*
  generalize ((bs.getD ((p*7+3).tmod bs.length).toNat []).getD 0 .nil).I=b at*
  have d1:0≤p.tdiv bs.length∧p.tdiv bs.length≤p:=⟨Int.tdiv_nonneg h0 (by omega),Int.tdiv_le_self _ h0⟩
  generalize p.tdiv bs.length=q at*
  have v1:w64 a=a:=w64_of (by omega) (by omega)
  have v2:w64 b=b:=w64_of (by omega) (by omega)
  have v3:w64 (a*131)=a*131:=w64_of (by omega) (by omega)
  have v4:w64 (b*1117)=b*1117:=w64_of (by omega) (by omega)
  have v5:w64 (a*131+b*1117)=a*131+b*1117:=w64_of (by omega) (by omega)
  have v6:w64 (p*29)=p*29:=w64_of (by omega) (by omega)
  have v7:w64 (a*131+b*1117+p*29)=a*131+b*1117+p*29:=w64_of (by omega) (by omega)
  have v8:w64 q=q:=w64_of (by omega) (by omega)
  have v9:w64 (q*53)=q*53:=w64_of (by omega) (by omega)
  have v10:w64 (a*131+b*1117+p*29+q*53)=a*131+b*1117+p*29+q*53:=w64_of (by omega) (by omega)
  have hx:0≤a*131+b*1117+p*29+q*53∧a*131+b*1117+p*29+q*53<1152921504606846976:=by omega
  simp only[v1,v2,v3,v4,v5,v6,v7,v8,v9,v10]
  generalize a*131+b*1117+p*29+q*53=x at*
  have e1:0≤x.tdiv 64∧x.tdiv 64≤x:=⟨Int.tdiv_nonneg hx.1 (by omega),Int.tdiv_le_self _ hx.1⟩
  have v11:w64 (x.tdiv 64)=x.tdiv 64:=w64_of (by omega) (by omega)
  have:=xor_ok hx (y:=x.tdiv 64) (by omega)
  simp only[v11] at*
  obtain ⟨k,k1,k2⟩:=key _ this.1
  exact ⟨k,k1,by simp only[k2,jV]⟩
theorem pk_0 {bs:List (List C)} {p n:Int} (h0:0≤p) (h1:p≤1125899906842624) (hn:n<1):s_l1Rd_pick [.i n,.l bs,.i p]=some [.i 0,.l bs,.i (p+1)]:=by
 have w1:w64 (p+1)=p+1:=w64_of (by omega) (by omega)
 simp only[s_l1Rd_pick,s_l1Rd_pick.d1,apL,jC,jD,C.I_i,C.L_l,w1,hn,decide_true,jZ,jS,jV]
end Go.Ev
namespace Go.Ev
theorem wr_end (G:List C→Option (List C)) (k:Int) (b:Nat) (s:Str) (x y z:C) {m:Nat} (hm:s.size≤m) (hb:m≤1048576):∃s':Str,ap6 (s_l1Write.d1 G) [.i b,.s s,.i k,x,y,z]=some (.ret [.s s'])∧s'.size≤m+2:=by
 have e0:∃j:Int,s_l1Bind [.i k]=some [.i j]:=by
  simp only[s_l1Bind,s_l1Bind.d1,apL,jC,C.I_i]
  cases k==5<;>cases k==4<;>exact ⟨_,rfl⟩
 obtain ⟨j,hj⟩:=e0
 have s1:(bs #[40]).size=1:=rfl
 have s2:(bs #[41]).size=1:=rfl
 have s3:(bs #[40]++s).size=1+s.size:=by rw[ByteArray.size_append];rfl
 have s4:((bs #[40]++s)++bs #[41]).size=1+s.size+1:=by rw[ByteArray.size_append,s3];rfl
 have c1:1+s.size≤4294967296:=by omega
 have c2:1+s.size+1≤4294967296:=by omega
 simp only[apL,jC,jD,s_l1Write.d1,hj,call1,jI,C.I_i,C.S_s,s1,s2,s3,c1,c2,decide_true,jR]
 cases decide (j<(b:Int)) with
 |true=>exact ⟨_,rfl,by rw[s4];omega⟩
 |false=>exact ⟨_,rfl,by omega⟩
theorem nameOk_sz {s:Str} (h:nameOk s=true):s.size≤20:=by
 simp only[nameOk,Bool.and_eq_true,within,decide_eq_true_eq] at h
 omega
theorem s_write {N K:List (List C)} (hN:N.length≤1048576) (hK:K.length≤1048576):∀(k:Nat) (t:Tr) (o:Nat) (r r':List (List C)) (b:Nat),t.depth<k→t.Wf→t.sz≤1000→N.drop o=t.flat++r→K.drop o=t.kids o++r'→
  ∃s:Str,s_l1Write.g k 0 [.l N,.l K,.i (o+t.sz-1:Nat),.i b]=some [.s s]∧s.size≤50*t.sz
 |0,t,o,r,r',b,h,_,_,_,_=>by omega
 |k+1,t,o,r,r',b,h,hok,hsz,hd,hd'=>by
  have hs:∀x,s_l1Write.g (k+1) 0 x=s_l1Write.step (s_l1Write.g k 0) x:=fun _=>rfl
  rw[hs]
  simp only[s_l1Write.step,s_l1Write.d2,apL,jC,jD,C.I_i,C.L_l,jY]
  cases t with
  |lf kd n v=>
   obtain ⟨h1,h2,_⟩:=drop_cons (show N.drop o=node kd n v 0::r from hd)
   have e:o+(Tr.lf kd n v).sz-1=o:=by simp[Tr.sz]
   have hg:N.getD o []=node kd n v 0:=by rw[List.getD_eq_getElem?_getD,List.getElem?_eq_getElem h1,h2];rfl
   have e1:((o:Int)<(N.length:Int)):=by omega
   simp only[e,hg,node,jC,jD,C.I_i,C.S_s,e1,decide_true,jR,jX]
   have hn:=nameOk_sz hok.1
   rcases hok.2 with ⟨rfl,rfl⟩|⟨rfl,hv⟩
   ·obtain ⟨s',h3,h4⟩:=wr_end (s_l1Write.g k 0) ((1:Nat):Int) b (mkS n) (.s (mkS n)) (.s (mkS [])) (.i ((0:Nat):Int)) hn (by omega)
    refine ⟨s',?_,by simp only[Tr.sz];omega⟩
    simp only[show (((1:Nat):Int)==1)=true from rfl,jR,jJ]
    rw[h3];rfl
   ·have hv:=nameOk_sz hv
    have s1:(bs #[61]).size=1:=rfl
    have s2:(mkS n++bs #[61]).size=(mkS n).size+1:=by rw[ByteArray.size_append];rfl
    have s3:((mkS n++bs #[61])++mkS v).size=(mkS n).size+1+(mkS v).size:=by rw[ByteArray.size_append,s2]
    obtain ⟨s',h3,h4⟩:=wr_end (s_l1Write.g k 0) ((2:Nat):Int) b ((mkS n++bs #[61])++mkS v) (.s (mkS n)) (.s (mkS v)) (.i ((0:Nat):Int)) (m:=41) (by rw[s3];omega) (by omega)
    refine ⟨s',?_,by simp only[Tr.sz];omega⟩
    have c1:(mkS n).size+1≤4294967296:=by omega
    have c2:(mkS n).size+1+(mkS v).size≤4294967296:=by omega
    simp only[show (((2:Nat):Int)==1)=false from rfl,show (((2:Nat):Int)==2)=true from rfl,jR,jS,s1,s2,c1,c2,decide_true,jJ]
    rw[h3];rfl
  |un t=>
   simp only[Tr.depth] at h
   simp only[Tr.sz] at hsz
   have hn:N.drop o=t.flat++(node 3 [] [] 1::r):=by rw[hd];simp[Tr.flat]
   have hk:K.drop o=t.kids o++([.l [[.i (o+t.sz-1:Nat)]]]::r'):=by rw[hd'];simp[Tr.kids]
   obtain ⟨s1,ih,hz⟩:=s_write hN hK k t o _ _ 3 (by omega) hok (by omega) hn hk
   obtain ⟨h1,h2⟩:=drop_at hn
   obtain ⟨h3,h4⟩:=drop_at hk
   rw[t.flat_len] at h1
   rw[t.kids_len] at h3
   have h2:N[o+t.sz]=node 3 [] [] 1:=by simp only[t.flat_len] at h2;exact h2
   have h4:K[o+t.sz]=[.l [[.i (o+t.sz-1:Nat)]]]:=by simp only[t.kids_len] at h4;exact h4
   have e:o+(Tr.un t).sz-1=o+t.sz:=by simp[Tr.sz]
   have hg:N.getD (o+t.sz) []=node 3 [] [] 1:=by rw[List.getD_eq_getElem?_getD,List.getElem?_eq_getElem h1,h2];rfl
   have hg':K.getD (o+t.sz) []=[.l [[.i (o+t.sz-1:Nat)]]]:=by rw[List.getD_eq_getElem?_getD,List.getElem?_eq_getElem h3,h4];rfl
   have e1:(((o+t.sz:Nat):Int)<(N.length:Int)):=by omega
   have e2:(((o+t.sz:Nat):Int)<(K.length:Int)):=by omega
   have e3:(0:Int)<((([[C.i ((o+t.sz-1:Nat):Int)]]:List (List C)).length:Nat):Int):=by simp
   have z1:(bs #[33]).size=1:=rfl
   have z2:(bs #[33]++s1).size=1+s1.size:=by rw[ByteArray.size_append];rfl
   have c1:1+s1.size≤4294967296:=by omega
   have ih':s_l1Write.g k 0 [.l N,.l K,.i (o+t.sz-1:Nat),.i 3]=some [.s s1]:=ih
   obtain ⟨s',q1,q2⟩:=wr_end (s_l1Write.g k 0) ((3:Nat):Int) b (bs #[33]++s1) (.s (mkS [])) (.s (mkS [])) (.i ((1:Nat):Int)) (m:=50*t.sz+1) (by rw[z2];omega) (by omega)
   refine ⟨s',?_,by simp only[Tr.sz];omega⟩
   simp only[e,hg,hg',node,jC,jD,C.I_i,C.L_l,C.S_s,e1,e2,e3,decide_true,jR,jS,jX,show (((3:Nat):Int)==1)=false from rfl,show (((3:Nat):Int)==2)=false from rfl,show (((3:Nat):Int)==3)=true from rfl,ih',call1,jI,z1,c1,jJ]
   rw[q1];rfl
  |bn kd a b'=>
   simp only[Tr.depth] at h
   simp only[Tr.sz] at hsz
   have hw:(kd=4∨kd=5)∧a.Wf∧b'.Wf:=hok
   have hn:N.drop o=a.flat++(b'.flat++(node kd [] [] 2::r)):=by rw[hd];simp[Tr.flat]
   have hn2:N.drop (o+a.sz)=b'.flat++(node kd [] [] 2::r):=by rw[←List.drop_drop,hn,←a.flat_len];simp
   have hk:K.drop o=a.kids o++(b'.kids (o+a.sz)++([.l [[.i (o+a.sz-1:Nat)],[.i (o+a.sz+b'.sz-1:Nat)]]]::r')):=by rw[hd'];simp[Tr.kids]
   have hk2:K.drop (o+a.sz)=b'.kids (o+a.sz)++([.l [[.i (o+a.sz-1:Nat)],[.i (o+a.sz+b'.sz-1:Nat)]]]::r'):=by
    rw[←List.drop_drop,hk,←a.kids_len o];simp
   obtain ⟨h1,h2⟩:=drop_at hn2
   obtain ⟨h3,h4⟩:=drop_at hk2
   rw[b'.flat_len] at h1
   rw[b'.kids_len] at h3
   have h2:N[o+a.sz+b'.sz]=node kd [] [] 2:=by simp only[b'.flat_len] at h2;exact h2
   have h4:K[o+a.sz+b'.sz]=[.l [[.i (o+a.sz-1:Nat)],[.i (o+a.sz+b'.sz-1:Nat)]]]:=by simp only[b'.kids_len] at h4;exact h4
   have e:o+(Tr.bn kd a b').sz-1=o+a.sz+b'.sz:=by simp only[Tr.sz];omega
   have hg:N.getD (o+a.sz+b'.sz) []=node kd [] [] 2:=by rw[List.getD_eq_getElem?_getD,List.getElem?_eq_getElem h1,h2];rfl
   have hg':K.getD (o+a.sz+b'.sz) []=[.l [[.i (o+a.sz-1:Nat)],[.i (o+a.sz+b'.sz-1:Nat)]]]:=by rw[List.getD_eq_getElem?_getD,List.getElem?_eq_getElem h3,h4];rfl
   have e1:(((o+a.sz+b'.sz:Nat):Int)<(N.length:Int)):=by omega
   have e2:(((o+a.sz+b'.sz:Nat):Int)<(K.length:Int)):=by omega
   have e3:(0:Int)<((([[C.i ((o+a.sz-1:Nat):Int)],[C.i ((o+a.sz+b'.sz-1:Nat):Int)]]:List (List C)).length:Nat):Int):=by simp
   have e4:(1:Int)<((([[C.i ((o+a.sz-1:Nat):Int)],[C.i ((o+a.sz+b'.sz-1:Nat):Int)]]:List (List C)).length:Nat):Int):=by simp
   rcases hw.1 with rfl|rfl
   ·obtain ⟨s1,iha,ha⟩:=s_write hN hK k a o _ _ 2 (by omega) hw.2.1 (by omega) hn hk
    obtain ⟨s2,ihb,hb⟩:=s_write hN hK k b' (o+a.sz) _ _ 3 (by omega) hw.2.2 (by omega) hn2 hk2
    have iha:s_l1Write.g k 0 [.l N,.l K,.i (o+a.sz-1:Nat),.i 2]=some [.s s1]:=iha
    have ihb:s_l1Write.g k 0 [.l N,.l K,.i (o+a.sz+b'.sz-1:Nat),.i 3]=some [.s s2]:=ihb
    have z1:(bs #[32,38,32]).size=3:=rfl
    have z2:(s1++bs #[32,38,32]).size=s1.size+3:=by rw[ByteArray.size_append];rfl
    have z3:((s1++bs #[32,38,32])++s2).size=s1.size+3+s2.size:=by rw[ByteArray.size_append,z2]
    have c1:s1.size+3≤4294967296:=by omega
    have c2:s1.size+3+s2.size≤4294967296:=by omega
    obtain ⟨s',q1,q2⟩:=wr_end (s_l1Write.g k 0) ((4:Nat):Int) b ((s1++bs #[32,38,32])++s2) (.s (mkS [])) (.s (mkS [])) (.i ((2:Nat):Int)) (m:=50*a.sz+50*b'.sz+3) (by rw[z3];omega) (by omega)
    refine ⟨s',?_,by simp only[Tr.sz];omega⟩
    simp only[e,hg,hg',node,jC,jD,C.I_i,C.L_l,C.S_s,e1,e2,e3,e4,decide_true,jR,jS,jX,show (((4:Nat):Int)==1)=false from rfl,show (((4:Nat):Int)==2)=false from rfl,show (((4:Nat):Int)==3)=false from rfl,show (((4:Nat):Int)==4)=true from rfl,iha,ihb,call1,jI,z1,z2,c1,c2,jJ]
    rw[q1];rfl
   ·obtain ⟨s1,iha,ha⟩:=s_write hN hK k a o _ _ 1 (by omega) hw.2.1 (by omega) hn hk
    obtain ⟨s2,ihb,hb⟩:=s_write hN hK k b' (o+a.sz) _ _ 2 (by omega) hw.2.2 (by omega) hn2 hk2
    have iha:s_l1Write.g k 0 [.l N,.l K,.i (o+a.sz-1:Nat),.i 1]=some [.s s1]:=iha
    have ihb:s_l1Write.g k 0 [.l N,.l K,.i (o+a.sz+b'.sz-1:Nat),.i 2]=some [.s s2]:=ihb
    have z1:(bs #[32,124,32]).size=3:=rfl
    have z2:(s1++bs #[32,124,32]).size=s1.size+3:=by rw[ByteArray.size_append];rfl
    have z3:((s1++bs #[32,124,32])++s2).size=s1.size+3+s2.size:=by rw[ByteArray.size_append,z2]
    have c1:s1.size+3≤4294967296:=by omega
    have c2:s1.size+3+s2.size≤4294967296:=by omega
    obtain ⟨s',q1,q2⟩:=wr_end (s_l1Write.g k 0) ((5:Nat):Int) b ((s1++bs #[32,124,32])++s2) (.s (mkS [])) (.s (mkS [])) (.i ((2:Nat):Int)) (m:=50*a.sz+50*b'.sz+3) (by rw[z3];omega) (by omega)
    refine ⟨s',?_,by simp only[Tr.sz];omega⟩
    simp only[e,hg,hg',node,jC,jD,C.I_i,C.L_l,C.S_s,e1,e2,e3,e4,decide_true,jR,jS,jX,show (((5:Nat):Int)==1)=false from rfl,show (((5:Nat):Int)==2)=false from rfl,show (((5:Nat):Int)==3)=false from rfl,show (((5:Nat):Int)==4)=false from rfl,show (((5:Nat):Int)==5)=true from rfl,iha,ihb,call1,jI,z1,z2,c1,c2,jJ]
    rw[q1];rfl
theorem s_print {t:Tr} (ht:t.sz≤400) (hw:t.Wf):∃s:Str,s_PilotPrint [.l t.flat]=some [.s s]∧s.size≤200:=by
 have hF:=FUEL_ge
 have hp:=t.sz_pos
 have hd:=t.depth_lt
 have hw1:w64 ((t.flat.length:Int)-1)=((0+t.sz-1:Nat):Int):=by rw[t.flat_len,w64_of (by omega) (by omega)];omega
 obtain ⟨s,h1,h2⟩:=s_write (N:=t.flat) (K:=t.kids 0) (by rw[t.flat_len];omega) (by rw[t.kids_len];omega) FUEL t 0 [] [] 1 (by omega) hw (by omega) (by simp) (by simp)
 have h1:s_l1Write [.l t.flat,.l (t.kids 0),.i (0+t.sz-1:Nat),.i 1]=some [.s s]:=h1
 simp only[s_PilotPrint,s_PilotPrint.d1,apL,jC,jD,s_l1Valid_Ok t ht (.inl hw),call1,call2,jI,C.B_b,s_l1Kids_eq t (by omega),C.L_l,hw1,h1,C.S_s]
 cases decide (t.depth≤20) with
 |false=>exact ⟨_,rfl,by decide⟩
 |true=>
  simp only[jZ,jS]
  by_cases hs:(s.size:Int)>200
  ·simp only[hs,decide_true,jR,jV];exact ⟨_,rfl,by decide⟩
  ·simp only[hs,decide_false,jS,jV];exact ⟨_,rfl,by omega⟩
end Go.Ev
namespace Go.Ev
section
variable {bs:List (List C)} (hb:BY bs) (hl:bs.length≤2000)
include hb hl
theorem word_ok {p:Int} (h0:0≤p) (h1:p≤1125899906842624):∃n:Tok,s_l1Word [.l bs,.i p]=some [.s (mkS n),.l bs,.i (p+1)]∧nameOk (mkS n)=true:=by
 obtain ⟨k,hk,e⟩:=pk_ok hb hl h0 h1 (n:=8) (by omega) (by omega)
 have hk:k<8:=by omega
 have q:((k:Int)<8):=by omega
 simp only[s_l1Word,s_l1Word.d1,apL,jC,jD,e,call3,jI,C.I_i,jX,decide_true,jR]
 rcases k with _|_|_|_|_|_|_|_|k
 ·exact ⟨[115,115,100],rfl,by decide⟩
 ·exact ⟨[111,108,100],rfl,by decide⟩
 ·exact ⟨[103,112,117],rfl,by decide⟩
 ·exact ⟨[122,111,110,101],rfl,by decide⟩
 ·exact ⟨[99,111,108,111,114],rfl,by decide⟩
 ·exact ⟨[97],rfl,by decide⟩
 ·exact ⟨[98,45,49],rfl,by decide⟩
 ·exact ⟨[120,95,50],rfl,by decide⟩
 ·omega
theorem leaf_ok {p:Int} (h0:0≤p) (h1:p≤1125899906842624-4):∃(t:Tr) (p':Int),s_l1Leaf [.l bs,.i p]=some [.l bs,.i p',.l t.flat]∧t.Wf∧t.sz=1∧p≤p'∧p'≤p+3:=by
 obtain ⟨k,hk,e⟩:=pk_ok hb hl h0 (show p≤1125899906842624 by omega) (n:=2) (by omega) (by omega)
 simp only[s_l1Leaf,s_l1Leaf.d1,apL,jC,jD,e,call3,jI,C.I_i]
 cases hq:((k:Int)==0) with
 |true=>
  obtain ⟨n,e2,hn⟩:=word_ok hb hl (p:=p+1) (by omega) (by omega)
  simp only[jR,e2,jI,jC,jD,jV]
  exact ⟨.lf 1 n [],p+1+1,rfl,⟨hn,.inl ⟨rfl,rfl⟩⟩,rfl,by omega,by omega⟩
 |false=>
  obtain ⟨i,hi,e2⟩:=pk_ok hb hl (p:=p+1) (n:=3) (by omega) (by omega) (by omega) (by omega)
  obtain ⟨j,hj,e3⟩:=pk_ok hb hl (p:=p+1+1) (n:=4) (by omega) (by omega) (by omega) (by omega)
  simp only[jS,e2,e3,jI,jC,jD,C.I_i,jX,decide_true,jR]
  have hv:∃v:Tok,((rows [[C.s (Go.Ev.bs #[101,97,115,116])],[C.s (Go.Ev.bs #[119,101,115,116])],[C.s (Go.Ev.bs #[114,101,100])],[C.s (Go.Ev.bs #[97])]]).getD (j:Int).toNat []).getD 0 .nil=.s (mkS v)∧nameOk (mkS v)=true:=by
   rcases j with _|_|_|_|j
   ·exact ⟨[101,97,115,116],rfl,by decide⟩
   ·exact ⟨[119,101,115,116],rfl,by decide⟩
   ·exact ⟨[114,101,100],rfl,by decide⟩
   ·exact ⟨[97],rfl,by decide⟩
   ·omega
  have hn:∃v:Tok,((rows [[C.s (Go.Ev.bs #[122,111,110,101])],[C.s (Go.Ev.bs #[99,111,108,111,114])],[C.s (Go.Ev.bs #[115,115,100])]]).getD (i:Int).toNat []).getD 0 .nil=.s (mkS v)∧nameOk (mkS v)=true:=by
   rcases i with _|_|_|i
   ·exact ⟨[122,111,110,101],rfl,by decide⟩
   ·exact ⟨[99,111,108,111,114],rfl,by decide⟩
   ·exact ⟨[115,115,100],rfl,by decide⟩
   ·omega
  obtain ⟨v,v1,v2⟩:=hv
  obtain ⟨n,n1,n2⟩:=hn
  rw[v1,n1]
  have q1:decide ((i:Int)<((rows [[C.s (Go.Ev.bs #[122,111,110,101])],[C.s (Go.Ev.bs #[99,111,108,111,114])],[C.s (Go.Ev.bs #[115,115,100])]]).length:Int))=true:=by
   show decide ((i:Int)<3)=true
   simp;omega
  have q2:decide ((j:Int)<((rows [[C.s (Go.Ev.bs #[101,97,115,116])],[C.s (Go.Ev.bs #[119,101,115,116])],[C.s (Go.Ev.bs #[114,101,100])],[C.s (Go.Ev.bs #[97])]]).length:Int))=true:=by
   show decide ((j:Int)<4)=true
   simp;omega
  rw[q1,q2]
  exact ⟨.lf 2 n v,p+1+1+1,rfl,⟨n2,.inr ⟨rfl,v2⟩⟩,rfl,by omega,by omega⟩
theorem tree_ok:∀(k d:Nat) (p:Int),d<k→d≤6→0≤p→p+(8*2^d:Nat)≤1125899906842624-10→∃(t:Tr) (p':Int),s_l1Draw.g k 0 [.i d,.l bs,.i p]=some [.l bs,.i p',.l t.flat]∧t.Wf∧t.sz+1≤2^(d+1)∧p≤p'∧p'≤p+(8*2^d-2:Nat)
 |0,d,p,h,_,_,_=>by omega
 |k+1,d,p,h,h6,h0,h1=>by
  have hs:∀x,s_l1Draw.g (k+1) 0 x=s_l1Draw.step (s_l1Draw.g k 0) x:=fun _=>rfl
  rw[hs]
  have hpow:2^d≤64∧1≤2^d:=by
   have:=Nat.pow_le_pow_right (show 0<2 by decide) h6
   exact ⟨by simpa using this,Nat.one_le_two_pow⟩
  simp only[s_l1Draw.step,s_l1Draw.d1,apL,jC,jD,C.I_i]
  have leaf:∀q:Int,p≤q→q≤p+1→∃(t:Tr) (p':Int),finR (call3 (s_l1Leaf [.l bs,.i q]) fun g h i=>some (.ret [g,h,.l i.L]))=some [.l bs,.i p',.l t.flat]∧t.Wf∧t.sz+1≤2^(d+1)∧p≤p'∧p'≤p+(8*2^d-2:Nat):=fun q q0 q1=>by
   obtain ⟨t,p',e,a1,a2,a3,a4⟩:=leaf_ok hb hl (p:=q) (by omega) (by omega)
   refine ⟨t,p',by simp only[e,call3,jI,jC,jD,C.L_l,jV],a1,?_,by omega,by omega⟩
   rw[a2,Nat.pow_succ];omega
  cases hd:decide ((d:Int)≤0) with
  |true=>simp only[jZ,jS];exact leaf p (by omega) (by omega)
  |false=>
   have hd:¬((d:Int)≤0):=by simpa using hd
   obtain ⟨i,hi,e⟩:=pk_ok hb hl h0 (show p≤1125899906842624 by omega) (n:=3) (by omega) (by omega)
   simp only[ja,jR,e,call3,jI,jC,jD,C.I_i]
   cases hq:((i:Int)==0) with
   |true=>simp only[jR];exact leaf (p+1) (by omega) (by omega)
   |false=>
    obtain ⟨j,hj,e2⟩:=pk_ok hb hl (p:=p+1) (n:=3) (by omega) (by omega) (by omega) (by omega)
    obtain ⟨d',rfl⟩:∃d',d=d'+1:=⟨d-1,by omega⟩
    have hw:w64 (((d'+1:Nat):Int)-1)=(d':Int):=by rw[w64_of (by omega) (by omega)];omega
    have hp2:2^(d'+1)=2*2^d':=by rw[Nat.pow_succ];omega
    have hp3:2^(d'+1+1)=4*2^d':=by rw[Nat.pow_succ,hp2];omega
    obtain ⟨t1,p1,g1,a1,a2,a3,a4⟩:=tree_ok k d' (p+1+1) (by omega) (by omega) (by omega) (by omega)
    have hpd:1≤2^d':=Nat.one_le_two_pow
    obtain ⟨t2,p2,g2,b1,b2,b3,b4⟩:=tree_ok k d' p1 (by omega) (by omega) (by omega) (by omega)
    have l1:=t1.flat_len
    have l2:=t2.flat_len
    have o1:=s_over1 3 1 t1.flat (by omega)
    have o2:=s_over2 4 2 t1.flat t2.flat (by omega)
    have o3:=s_over2 5 2 t1.flat t2.flat (by omega)
    simp only[jS,e2,jI,jC,jD,C.I_i,hw,g1,C.L_l]
    cases hj0:((j:Int)==0) with
    |true=>
     simp only[jR,o1,call2,jI,jC,jD,C.L_l,jV]
     exact ⟨.un t1,p1,rfl,a1,by simp only[Tr.sz];omega,by omega,by omega⟩
    |false=>
     simp only[jS,g2,jI,jC,jD,C.L_l]
     cases hj1:((j:Int)==1) with
     |true=>
      simp only[jR,o2,call2,jI,jC,jD,C.L_l,jV]
      exact ⟨.bn 4 t1 t2,p2,rfl,⟨.inl rfl,a1,b1⟩,by simp only[Tr.sz];omega,by omega,by omega⟩
     |false=>
      simp only[jS,o3,call2,jI,jC,jD,C.L_l,jV]
      exact ⟨.bn 5 t1 t2,p2,rfl,⟨.inr rfl,a1,b1⟩,by simp only[Tr.sz];omega,by omega,by omega⟩
theorem sel_ok {p:Int} (h0:0≤p) (h1:p≤1125899906842624-2000):∃(s:Str) (p':Int),s_l2DrawSelect [.l bs,.i p]=some [.s s,.l bs,.i p']∧s.size≤200∧p≤p'∧p'≤p+40:=by
 obtain ⟨k,hk,e⟩:=pk_ok hb hl h0 (show p≤1125899906842624 by omega) (n:=2) (by omega) (by omega)
 simp only[s_l2DrawSelect,s_l2DrawSelect.d1,apL,jC,jD,e,call3,jI,C.I_i]
 cases hq:((k:Int)==0) with
 |true=>simp only[jR,jV];exact ⟨_,_,rfl,by decide,by omega,by omega⟩
 |false=>
  obtain ⟨i,hi,e2⟩:=pk_ok hb hl (p:=p+1) (n:=3) (by omega) (by omega) (by omega) (by omega)
  simp only[jS,e2,jI,jC,jD,C.I_i]
  cases hq2:((i:Int)==0) with
  |true=>
   obtain ⟨j,hj,e3⟩:=pk_ok hb hl (p:=p+1+1) (n:=6) (by omega) (by omega) (by omega) (by omega)
   simp only[jR,e3,jI,jC,jD,C.I_i,jX,decide_true]
   rcases j with _|_|_|_|_|_|j
   ·exact ⟨_,_,rfl,by decide,by omega,by omega⟩
   ·exact ⟨_,_,rfl,by decide,by omega,by omega⟩
   ·exact ⟨_,_,rfl,by decide,by omega,by omega⟩
   ·exact ⟨_,_,rfl,by decide,by omega,by omega⟩
   ·exact ⟨_,_,rfl,by decide,by omega,by omega⟩
   ·exact ⟨_,_,rfl,by decide,by omega,by omega⟩
   ·omega
  |false=>
   have hF:=FUEL_ge
   obtain ⟨t,p',g,a1,a2,a3,a4⟩:=tree_ok hb hl FUEL 2 (p+1+1) (by omega) (by omega) (by omega) (by omega)
   have g:s_l1Draw [.i 2,.l bs,.i (p+1+1)]=some [.l bs,.i p',.l t.flat]:=g
   obtain ⟨s,s1,s2⟩:=s_print (t:=t) (by omega) a1
   simp only[jS,g,s1,call1,jI,jC,jD,C.L_l,jV]
   exact ⟨s,p',rfl,s2,by omega,by omega⟩
end
theorem dec_ok:∀(k n:Nat),n<k→n≤1000→∃s:Str,s_l9Dec.g k 0 [.i n]=some [.s s]∧s.size≤n+1
 |0,n,h,_=>by omega
 |k+1,n,h,hn=>by
  have hs:∀x,s_l9Dec.g (k+1) 0 x=s_l9Dec.step (s_l9Dec.g k 0) x:=fun _=>rfl
  rw[hs]
  have n0:¬((n:Int)<0):=by omega
  simp only[s_l9Dec.step,s_l9Dec.d1,apL,jC,C.I_i,n0,decide_false,jS]
  have mb:∀x:C,(mkBy (rows [[x]])).size=1:=fun _=>rfl
  by_cases h10:(n:Int)<10
  ·simp only[h10,decide_true,jR,jV]
   exact ⟨_,rfl,by rw[mb];omega⟩
  ·have e:(n:Int).tdiv 10=((n/10:Nat):Int):=by rw[Int.tdiv_eq_ediv_of_nonneg (by omega)];omega
   have w:w64 ((n:Int).tdiv 10)=((n/10:Nat):Int):=by rw[e,w64_of (by omega) (by omega)]
   obtain ⟨s,g,hz⟩:=dec_ok k (n/10) (by omega) (by omega)
   have c1:s.size+1≤4294967296:=by omega
   simp only[h10,decide_false,jS,w,g,call1,jI,jC,C.S_s,mb,c1,decide_true,jR,jV]
   exact ⟨_,rfl,by rw[ByteArray.size_append,mb];omega⟩
theorem s_dec {n:Nat} (hn:n≤1000):∃s:Str,s_l9Dec [.i n]=some [.s s]∧s.size≤n+1:=dec_ok FUEL n (by have:=FUEL_ge;omega) hn
end Go.Ev
namespace Go.Ev
def S20 (ms:List Str):Prop:=∀m,m∈ms→m.size≤20
theorem S20.addM {ms:List Str} (h:S20 ms) {x:Str} (hx:x.size≤20):S20 (ms++[x]):=fun m hm=>by
 rcases List.mem_append.1 hm with hm|hm
 ·exact h m hm
 ·rw[List.mem_singleton.1 hm];exact hx
theorem map_add (ms:List Str) (x:Str):ms.map sE++[[C.s x]]=(ms++[x]).map sE:=by simp[sE]
section
variable {bs:List (List C)} (hb:BY bs) (hl:bs.length≤2000)
include hb hl
theorem mk_d1 {ms:List Str} (h:S20 ms) (hm:ms.length≤10) {p:Int} (h0:0≤p) (h1:p≤1125899906842624-10):
  ∃(ms':List Str) (p':Int),ap3 s_l1Marks.d1 [.l bs,.i p,.l (ms.map sE)]=some (.ret [.l bs,.i p',.l (ms'.map sE)])∧S20 ms'∧ms'.length≤ms.length+1∧p≤p'∧p'≤p+2:=by
 obtain ⟨k,hk,e⟩:=pk_ok hb hl h0 (show p≤1125899906842624 by omega) (n:=2) (by omega) (by omega)
 simp only[s_l1Marks.d1,apL,jC,jD,e,call3,jI,C.I_i,C.L_l,jW]
 cases hq:((k:Int)==0) with
 |false=>simp only[jS];exact ⟨ms,p+1,rfl,h,by omega,by omega,by omega⟩
 |true=>
  obtain ⟨j,hj,e2⟩:=pk_ok hb hl (p:=p+1) (n:=2) (by omega) (by omega) (by omega) (by omega)
  simp only[jR,e2,jI,jC,jD,C.I_i,jX,decide_true]
  have c1:ms.length+1≤4294967296:=by omega
  rcases j with _|_|j
  ·refine ⟨ms++[Go.Ev.bs #[115,115,100]],p+1+1,?_,h.addM (by decide),by simp,by omega,by omega⟩
   rw[←map_add]
   simp[rows,c1]
  ·refine ⟨ms++[Go.Ev.bs #[115,115,100,61,97]],p+1+1,?_,h.addM (by decide),by simp,by omega,by omega⟩
   rw[←map_add]
   simp[rows,c1]
  ·omega
theorem mk_d2 {ms:List Str} (h:S20 ms) (hm:ms.length≤9) {p:Int} (h0:0≤p) (h1:p≤1125899906842624-20):
  ∃(ms':List Str) (p':Int),ap3 s_l1Marks.d2 [.l bs,.i p,.l (ms.map sE)]=some (.ret [.l bs,.i p',.l (ms'.map sE)])∧S20 ms'∧ms'.length≤ms.length+2∧p≤p'∧p'≤p+3:=by
 obtain ⟨k,hk,e⟩:=pk_ok hb hl h0 (show p≤1125899906842624 by omega) (n:=3) (by omega) (by omega)
 have c1:ms.length+1≤4294967296:=by omega
 simp only[s_l1Marks.d2,apL,jC,jD,e,call3,jI,C.I_i,C.L_l,jW,rows,List.length_cons,List.length_nil,Nat.zero_add,c1,decide_true,jR]
 cases hq:((k:Int)==0) with
 |false=>
  obtain ⟨ms',p',g,a1,a2,a3,a4⟩:=mk_d1 hb hl h (by omega) (p:=p+1) (by omega) (by omega)
  simp only[jS,jJ]
  exact ⟨ms',p',g,a1,by omega,by omega,by omega⟩
 |true=>
  obtain ⟨ms',p',g,a1,a2,a3,a4⟩:=mk_d1 hb hl (ms:=ms++[Go.Ev.bs #[111,108,100]]) (h.addM (by decide)) (by simp;omega) (p:=p+1) (by omega) (by omega)
  simp only[jR,jJ,map_add]
  simp only[List.length_append,List.length_cons,List.length_nil] at a2
  exact ⟨ms',p',g,a1,by omega,by omega,by omega⟩
theorem mk_d3 {ms:List Str} (h:S20 ms) (hm:ms.length≤8) {p:Int} (h0:0≤p) (h1:p≤1125899906842624-30):
  ∃(ms':List Str) (p':Int),ap3 s_l1Marks.d3 [.l bs,.i p,.l (ms.map sE)]=some (.ret [.l bs,.i p',.l (ms'.map sE)])∧S20 ms'∧ms'.length≤ms.length+3∧p≤p'∧p'≤p+4:=by
 obtain ⟨k,hk,e⟩:=pk_ok hb hl h0 (show p≤1125899906842624 by omega) (n:=3) (by omega) (by omega)
 have c1:ms.length+1≤4294967296:=by omega
 simp only[s_l1Marks.d3,apL,jC,jD,e,call3,jI,C.I_i,C.L_l,jW,rows,List.length_cons,List.length_nil,Nat.zero_add,c1,decide_true,jR]
 cases hq:((k:Int)==0) with
 |false=>
  obtain ⟨ms',p',g,a1,a2,a3,a4⟩:=mk_d2 hb hl h (by omega) (p:=p+1) (by omega) (by omega)
  simp only[jS,jJ]
  exact ⟨ms',p',g,a1,by omega,by omega,by omega⟩
 |true=>
  obtain ⟨ms',p',g,a1,a2,a3,a4⟩:=mk_d2 hb hl (ms:=ms++[Go.Ev.bs #[103,112,117]]) (h.addM (by decide)) (by simp;omega) (p:=p+1) (by omega) (by omega)
  simp only[jR,jJ,map_add]
  simp only[List.length_append,List.length_cons,List.length_nil] at a2
  exact ⟨ms',p',g,a1,by omega,by omega,by omega⟩
theorem marks_ok {p:Int} (h0:0≤p) (h1:p≤1125899906842624-40):
  ∃(ms:List Str) (p':Int),s_l1Marks [.l bs,.i p]=some [.l bs,.i p',.l (ms.map sE)]∧S20 ms∧ms.length≤10∧p≤p'∧p'≤p+6:=by
 obtain ⟨k,hk,e⟩:=pk_ok hb hl h0 (show p≤1125899906842624 by omega) (n:=2) (by omega) (by omega)
 simp only[s_l1Marks,s_l1Marks.d4,apL,jC,jD,e,call3,jI,C.I_i]
 cases hq:((k:Int)==0) with
 |false=>
  obtain ⟨ms',p',g,a1,a2,a3,a4⟩:=mk_d3 hb hl (ms:=[]) (fun _ h=>by simp at h) (by simp) (p:=p+1) (by omega) (by omega)
  have g:ap3 s_l1Marks.d3 [.l bs,.i (p+1),.l nils]=_:=g
  simp only[jS,jJ,g,jV]
  simp only[List.length_nil] at a2
  exact ⟨ms',p',rfl,a1,by omega,by omega,by omega⟩
 |true=>
  obtain ⟨j,hj,e2⟩:=pk_ok hb hl (p:=p+1) (n:=2) (by omega) (by omega) (by omega) (by omega)
  simp only[jR,e2,jI,jC,jD,C.I_i,jX,decide_true]
  rcases j with _|_|j
  ·obtain ⟨ms',p',g,a1,a2,a3,a4⟩:=mk_d3 hb hl (ms:=[Go.Ev.bs #[99,111,108,111,114,61]++Go.Ev.bs #[114,101,100]]) (fun m h=>by rw[List.mem_singleton.1 h];decide) (by simp) (p:=p+1+1) (by omega) (by omega)
   simp only[List.map_cons,List.map_nil,sE,List.length_cons,List.length_nil] at g a2
   have g':finR (ap3 s_l1Marks.d3 [.l bs,.i (p+1+1),.l [[.s (Go.Ev.bs #[99,111,108,111,114,61]++Go.Ev.bs #[114,101,100])]]])=some [.l bs,.i p',.l (ms'.map sE)]:=by rw[g];rfl
   exact ⟨ms',p',g',a1,by omega,by omega,by omega⟩
  ·obtain ⟨ms',p',g,a1,a2,a3,a4⟩:=mk_d3 hb hl (ms:=[Go.Ev.bs #[99,111,108,111,114,61]++Go.Ev.bs #[97]]) (fun m h=>by rw[List.mem_singleton.1 h];decide) (by simp) (p:=p+1+1) (by omega) (by omega)
   simp only[List.map_cons,List.map_nil,sE,List.length_cons,List.length_nil] at g a2
   have g':finR (ap3 s_l1Marks.d3 [.l bs,.i (p+1+1),.l [[.s (Go.Ev.bs #[99,111,108,111,114,61]++Go.Ev.bs #[97])]]])=some [.l bs,.i p',.l (ms'.map sE)]:=by rw[g];rfl
   exact ⟨ms',p',g',a1,by omega,by omega,by omega⟩
  ·omega
theorem berth_ok {nm:Str} (hn:nm.size≤100) {p:Int} (h0:0≤p) (h1:p≤1125899906842624-100):
  ∃(b:Bt) (p':Int),s_l2DrawBerth [.s nm,.l bs,.i p]=some [.s b.name,.s b.zone,.i b.room,.i b.hold,.b b.shut,.l bs,.i p',.l (b.marks.map sE)]∧b.name=nm∧b.Sz 1000∧p≤p'∧p'≤p+10:=by
 obtain ⟨k,hk,e⟩:=pk_ok hb hl h0 (show p≤1125899906842624 by omega) (n:=3) (by omega) (by omega)
 obtain ⟨ms,p1,g,a1,a2,a3,a4⟩:=marks_ok hb hl (p:=p+1) (by omega) (by omega)
 obtain ⟨r,hr,e2⟩:=pk_ok hb hl (p:=p1) (n:=20) (by omega) (by omega) (by omega) (by omega)
 obtain ⟨h,hh,e3⟩:=pk_ok hb hl (p:=p1+1) (n:=20) (by omega) (by omega) (by omega) (by omega)
 obtain ⟨s,hs,e4⟩:=pk_ok hb hl (p:=p1+1+1) (n:=10) (by omega) (by omega) (by omega) (by omega)
 simp only[s_l2DrawBerth,s_l2DrawBerth.d1,apL,jC,jD,e,g,e2,e3,e4,call3,jI,C.I_i,C.L_l,jX,decide_true,jR]
 have key:∀z:Str,z.size≤20→∃(b:Bt) (p':Int),some [C.s nm,C.s z,C.i (w64 (4+(r:Int))),C.i (w64 (4+(h:Int))),C.b ((s:Int)==0),C.l bs,C.i (p1+1+1+1),C.l (ms.map sE)]=some [.s b.name,.s b.zone,.i b.room,.i b.hold,.b b.shut,.l bs,.i p',.l (b.marks.map sE)]∧b.name=nm∧b.Sz 1000∧p≤p'∧p'≤p+10:=fun z hz=>
  ⟨⟨nm,z,ms,_,_,_⟩,p1+1+1+1,rfl,rfl,⟨by show nm.size≤1000;omega,by show z.size≤1000;omega,by show ms.length≤1000;omega,fun m hm=>Nat.le_trans (a1 m hm) (by decide)⟩,by omega,by omega⟩
 rcases k with _|_|_|k
 ·exact key _ (show (Go.Ev.bs #[101,97,115,116]).size≤20 by decide)
 ·exact key _ (show (Go.Ev.bs #[119,101,115,116]).size≤20 by decide)
 ·exact key _ (show (Go.Ev.bs #[110,111,114,116,104]).size≤20 by decide)
 ·omega
theorem likes_loop (a e f g h i j k l m n o q r s t u v w x y z a0:C):∀(c:Nat) (b p:Int) (L:List Lk),b≤c→-10≤b→c≤10→0≤p→p≤1125899906842624-10000+(0-100)*c→L.length+c≤20→(∀x,x∈L→x.sel.size≤200)→
  ∃(L':List Lk) (p':Int),lim (ap28 s_l2DrawCopy.d1) [a,.i b,.l bs,.i p,e,f,g,h,i,j,k,l,m,n,o,q,r,s,t,u,v,w,x,y,z,a0,.l [],.l (L.map Lk.e)]=some (.brk 0 [a,.l bs,.i p',e,f,g,h,i,j,k,l,m,n,o,q,r,s,t,u,v,w,x,y,z,a0,.l [],.l (L'.map Lk.e)])∧L'.length≤20∧(∀x,x∈L'→x.sel.size≤200)∧p≤p'∧p'≤p+50*c
 |c,b,p,L,hbc,hb0,hc,h0,h1,hL,hz=>by
  by_cases hpos:b>0
  ·obtain ⟨c',rfl⟩:∃c',c=c'+1:=⟨c-1,by omega⟩
   obtain ⟨sl,p1,g1,a1,a2,a3⟩:=sel_ok hb hl (p:=p) h0 (by omega)
   obtain ⟨wt,hw,g2⟩:=pk_ok hb hl (p:=p1) (n:=19) (by omega) (by omega) (by omega) (by omega)
   have ww:w64 (b-1)=b-1:=w64_of (by omega) (by omega)
   have c1:L.length+1≤4294967296:=by omega
   have hstep:ap28 s_l2DrawCopy.d1 [a,.i b,.l bs,.i p,e,f,g,h,i,j,k,l,m,n,o,q,r,s,t,u,v,w,x,y,z,a0,.l [],.l (L.map Lk.e)]=some (.again [a,.i (b-1),.l bs,.i (p1+1),e,f,g,h,i,j,k,l,m,n,o,q,r,s,t,u,v,w,x,y,z,a0,.l [],.l ((L++[Lk.mk sl (w64 ((wt:Int)-9))]).map Lk.e)]):=by
    simp only[apL,jC,jD,s_l2DrawCopy.d1,C.I_i,hpos,decide_true,jR,g1,g2,call3,jI,C.L_l,jW,rows,List.length_cons,List.length_nil,Nat.zero_add,c1,ww,List.map_append,List.map_cons,List.map_nil,Lk.e]
   rw[lim_again hstep]
   obtain ⟨L',p',q1,q2,q3,q4,q5⟩:=likes_loop a e f g h i j k l m n o q r s t u v w x y z a0 c' (b-1) (p1+1) (L++[Lk.mk sl (w64 ((wt:Int)-9))]) (by omega) (by omega) (by omega) (by omega) (by omega) (by simp;omega) (fun y hy=>by
    rcases List.mem_append.1 hy with hy|hy
    ·exact hz y hy
    ·rw[List.mem_singleton.1 hy];exact a1)
   exact ⟨L',p',q1,q2,q3,by omega,by omega⟩
  ·refine ⟨L,p,lim_brk ?_,by omega,hz,by omega,by omega⟩
   simp only[apL,jC,jD,s_l2DrawCopy.d1,C.I_i,hpos,decide_false,jS,C.L_l]
end
end Go.Ev
namespace Go.Ev
section
variable {bs:List (List C)} (hb:BY bs) (hl:bs.length≤2000)
include hb hl
theorem copy_d2 {nm sv sel:Str} {rk bn rm hd:Int} {L:List Lk} (d e f g h i j k l m n z:C) (z1:nm.size≤1000) (z2:sv.size≤1000) (z3:sel.size≤1000) (z4:L.length≤20) (z5:∀x,x∈L→x.sel.size≤200) {p:Int} (h0:0≤p) (h1:p≤1125899906842624-100):
  ∃(c:Cp) (p':Int),ap27 s_l2DrawCopy.d2 [.s sv,.l bs,.i p,d,e,f,g,h,i,j,k,l,m,n,.s nm,.s sv,.i rk,.i bn,.i rm,.i hd,.s sel,.i 0,.s (Go.Ev.bs #[]),.s (Go.Ev.bs #[]),.s (Go.Ev.bs #[]),z,.l (L.map Lk.e)]=some (.ret (c.e++[.l bs,.i p']))∧c.Sz 1000∧p≤p'∧p'≤p+10:=by
 obtain ⟨x,hx,g1⟩:=pk_ok hb hl h0 (show p≤1125899906842624 by omega) (n:=8) (by omega) (by omega)
 have key:∀(ap:Int) (nr fx:Str) (p':Int),nr.size≤1000→fx.size≤1000→p≤p'→p'≤p+10→∃(c:Cp) (q:Int),some (Out.ret [C.s nm,.s sv,.i rk,.i bn,.i rm,.i hd,.s sel,.l (L.map Lk.e),.i ap,.s nr,.s fx,.s (Go.Ev.bs #[]),.l bs,.i p'])=some (.ret (c.e++[.l bs,.i q]))∧c.Sz 1000∧p≤q∧q≤p+10:=fun ap nr fx p' hn hf q1 q2=>
  ⟨⟨nm,sv,rk,bn,rm,hd,sel,L,ap,nr,fx,Go.Ev.bs #[]⟩,p',rfl,⟨z1,z2,z3,hn,hf,by show (Go.Ev.bs #[]).size≤1000;decide,by show L.length≤1000;omega,fun x hx=>Nat.le_trans (z5 x hx) (by decide)⟩,q1,q2⟩
 have e0:(Go.Ev.bs #[]).size≤1000:=by decide
 simp only[apL,jC,jD,s_l2DrawCopy.d2,g1,call3,jI,C.I_i,C.L_l]
 cases q0:((x:Int)==0) with
 |true=>simp only[jR];exact key 1 _ _ _ e0 e0 (by omega) (by omega)
 |false=>
  cases q1:((x:Int)==1) with
  |true=>simp only[jR,jS];exact key 2 _ _ _ e0 e0 (by omega) (by omega)
  |false=>
   cases q2:((x:Int)==2) with
   |true=>
    obtain ⟨y,hy,g2⟩:=pk_ok hb hl (p:=p+1) (n:=4) (by omega) (by omega) (by omega) (by omega)
    simp only[jR,jS,g2,jI,jC,jD,C.I_i,jX,decide_true]
    rcases y with _|_|_|_|y
    ·exact key 0 (Go.Ev.bs #[119,101,98]) _ _ (by decide) e0 (by omega) (by omega)
    ·exact key 0 (Go.Ev.bs #[100,98]) _ _ (by decide) e0 (by omega) (by omega)
    ·exact key 0 (Go.Ev.bs #[103,111,110,101]) _ _ (by decide) e0 (by omega) (by omega)
    ·exact key 0 sv _ _ z2 e0 (by omega) (by omega)
    ·omega
   |false=>
    cases q3:((x:Int)==3) with
    |true=>
     obtain ⟨y,hy,g2⟩:=pk_ok hb hl (p:=p+1) (n:=3) (by omega) (by omega) (by omega) (by omega)
     simp only[jR,jS,g2,jI,jC,jD,C.I_i]
     cases q4:((y:Int)==0) with
     |true=>
      obtain ⟨w,hw,g3⟩:=pk_ok hb hl (p:=p+1+1) (n:=4) (by omega) (by omega) (by omega) (by omega)
      obtain ⟨s,g4,hs⟩:=s_dec (n:=w) (by omega)
      have b1:(Go.Ev.bs #[98]).size=1:=rfl
      have c1:1+s.size≤4294967296:=by omega
      simp only[jR,g3,g4,call1,jI,jC,jD,C.S_s,b1,c1,decide_true]
      exact key 0 _ _ _ e0 (by rw[ByteArray.size_append,b1];omega) (by omega) (by omega)
     |false=>simp only[jS];exact key 0 _ _ _ e0 e0 (by omega) (by omega)
    |false=>simp only[jS];exact key 0 _ _ _ e0 e0 (by omega) (by omega)
theorem copy_ok {n:Nat} (hn:n≤900) {p:Int} (h0:0≤p) (h1:p≤1125899906842624-20000):∃(c:Cp) (p':Int),s_l2DrawCopy [.i n,.l bs,.i p]=some (c.e++[.l bs,.i p'])∧c.Sz 1000∧p≤p'∧p'≤p+1000:=by
 obtain ⟨x1,k1,g1⟩:=pk_ok hb hl h0 (show p≤1125899906842624 by omega) (n:=4) (by omega) (by omega)
 obtain ⟨s,g2,hs⟩:=s_dec (n:=n) (by omega)
 obtain ⟨x3,k3,g3⟩:=pk_ok hb hl (p:=p+1) (n:=6) (by omega) (by omega) (by omega) (by omega)
 obtain ⟨x4,k4,g4⟩:=pk_ok hb hl (p:=p+1+1) (n:=30) (by omega) (by omega) (by omega) (by omega)
 obtain ⟨x5,k5,g5⟩:=pk_ok hb hl (p:=p+1+1+1) (n:=7) (by omega) (by omega) (by omega) (by omega)
 obtain ⟨x6,k6,g6⟩:=pk_ok hb hl (p:=p+1+1+1+1) (n:=8) (by omega) (by omega) (by omega) (by omega)
 obtain ⟨sel,p1,g7,a1,a2,a3⟩:=sel_ok hb hl (p:=p+1+1+1+1+1) (by omega) (by omega)
 obtain ⟨x8,k8,g8⟩:=pk_ok hb hl (p:=p1) (n:=5) (by omega) (by omega) (by omega) (by omega)
 have w1:w64 ((x8:Int)-2)=(x8:Int)-2:=w64_of (by omega) (by omega)
 have hsv:∃sv:Str,((rows [[C.s (Go.Ev.bs #[119,101,98])],[C.s (Go.Ev.bs #[100,98])],[C.s (Go.Ev.bs #[106,111,98])],[C.s (Go.Ev.bs #[99,97,99,104,101])]]).getD (x1:Int).toNat []).getD 0 .nil=.s sv∧sv.size≤10:=by
  rcases x1 with _|_|_|_|x1
  ·exact ⟨_,rfl,by decide⟩
  ·exact ⟨_,rfl,by decide⟩
  ·exact ⟨_,rfl,by decide⟩
  ·exact ⟨_,rfl,by decide⟩
  ·omega
 obtain ⟨sv,v1,v2⟩:=hsv
 have hrk:∃rk:Int,((rows [[C.i 1],[C.i 1],[C.i 5],[C.i 5],[C.i 9],[C.i 50]]).getD (x3:Int).toNat []).getD 0 .nil=.i rk:=by
  rcases x3 with _|_|_|_|_|_|x3
  ·exact ⟨_,rfl⟩
  ·exact ⟨_,rfl⟩
  ·exact ⟨_,rfl⟩
  ·exact ⟨_,rfl⟩
  ·exact ⟨_,rfl⟩
  ·exact ⟨_,rfl⟩
  ·omega
 obtain ⟨rk,r1⟩:=hrk
 have l1:decide ((x1:Int)<((rows [[C.s (Go.Ev.bs #[119,101,98])],[C.s (Go.Ev.bs #[100,98])],[C.s (Go.Ev.bs #[106,111,98])],[C.s (Go.Ev.bs #[99,97,99,104,101])]]).length:Int))=true:=by
  show decide ((x1:Int)<4)=true
  simp;omega
 have l3:decide ((x3:Int)<((rows [[C.i 1],[C.i 1],[C.i 5],[C.i 5],[C.i 9],[C.i 50]]).length:Int))=true:=by
  show decide ((x3:Int)<6)=true
  simp;omega
 have b1:(Go.Ev.bs #[45]).size=1:=rfl
 have b2:(sv++Go.Ev.bs #[45]).size=sv.size+1:=by rw[ByteArray.size_append];rfl
 have b3:((sv++Go.Ev.bs #[45])++s).size=sv.size+1+s.size:=by rw[ByteArray.size_append,b2]
 have c1:sv.size+1≤4294967296:=by omega
 have c2:sv.size+1+s.size≤4294967296:=by omega
 simp only[s_l2DrawCopy,s_l2DrawCopy.d3,apL,jC,jD,g1,g2,g3,g4,g5,g6,g7,g8,call3,call1,jI,C.I_i,jX,decide_true,jR,v1,r1,l1,l3,C.S_s,b1,b2,c1,c2,w1]
 obtain ⟨L,p2,q1,q2,q3,q4,q5⟩:=likes_loop hb hl (.s sv) (.s (Go.Ev.bs #[])) (.s (Go.Ev.bs #[])) (.i 0) (.i 0) (.i 0) (.i 0) (.s (Go.Ev.bs #[])) (.i 0) (.s (Go.Ev.bs #[])) (.s (Go.Ev.bs #[])) (.s (Go.Ev.bs #[])) (.s ((sv++Go.Ev.bs #[45])++s)) (.s sv) (.i rk) (.i x4) (.i (w64 (1+(x5:Int)))) (.i x6) (.s sel) (.i 0) (.s (Go.Ev.bs #[])) (.s (Go.Ev.bs #[])) (.s (Go.Ev.bs #[])) 3 ((x8:Int)-2) (p1+1) [] (by omega) (by omega) (by omega) (by omega) (by omega) (by simp) (fun x hx=>by simp at hx)
 simp only[List.map_nil] at q1
 have q1':=q1
 erw[q1']
 obtain ⟨c,p3,r2,r3,r4,r5⟩:=copy_d2 hb hl (nm:=(sv++Go.Ev.bs #[45])++s) (sv:=sv) (sel:=sel) (rk:=rk) (bn:=x4) (rm:=w64 (1+(x5:Int))) (hd:=x6) (L:=L) (.s (Go.Ev.bs #[])) (.s (Go.Ev.bs #[])) (.i 0) (.i 0) (.i 0) (.i 0) (.s (Go.Ev.bs #[])) (.i 0) (.s (Go.Ev.bs #[])) (.s (Go.Ev.bs #[])) (.s (Go.Ev.bs #[])) (.l nils) (by rw[b3];omega) (by omega) (by omega) q2 q3 (p:=p2) (by omega) (by omega)
 refine ⟨c,p3,?_,r3,by omega,by omega⟩
 simp only[bindBlk_self]
 erw[r2]
 rfl
end
end Go.Ev
namespace Go.Ev
abbrev E0:List C:=[.s (Go.Ev.bs #[]),.s (Go.Ev.bs #[]),.l [],.i 0,.i 0,.b false]
abbrev ev3 (c:Cp):List C:=.i 3::E0++c.e++[.s (Go.Ev.bs #[]),.s (Go.Ev.bs #[])]
abbrev ev5 (nm at_:Str):List C:=.i 5::E0++[.s (Go.Ev.bs #[]),.s (Go.Ev.bs #[]),.i 0,.i 0,.i 0,.i 0,.s (Go.Ev.bs #[]),.l [],.i 0,.s (Go.Ev.bs #[]),.s (Go.Ev.bs #[]),.s (Go.Ev.bs #[]),.s nm,.s at_]
theorem ev_lb {l:List Cp} (nm:Str) {body:List C→R} {S:Nat→List C} (hs:∀i (h:i<l.length),body (S i)=if sLt l[i].name nm=true then some (.again (S (i+1))) else some (.brk 5 (S i))) (he:body (S l.length)=some (.brk 5 (S l.length))):
  ∀d i,i+d=l.length→∃j,j≤l.length∧lim body (S i)=some (.brk 5 (S j))
 |0,i,h=>by
  have:i=l.length:=by omega
  subst this
  exact ⟨_,Nat.le_refl _,lim_brk he⟩
 |d+1,i,h=>by
  have hi:i<l.length:=by omega
  by_cases hc:sLt l[i].name nm=true
  ·obtain ⟨j,a,b⟩:=ev_lb nm hs he d (i+1) (by omega)
   exact ⟨j,a,by rw[lim_again (by rw[hs i hi,if_pos hc])];exact b⟩
  ·exact ⟨i,by omega,lim_brk (by rw[hs i hi,if_neg hc])⟩
section
variable {f:Fl} (hz:f.Sz 1048576)
include hz
theorem event3 {c:Cp} (hc:c.Sz 1048576) (h60:f.cps.length≤1000):
  ∃l:List Cp,s_l8Event (f.e++ev3 c)=some [.b f.pack,.b true,.l (f.bts.map Bt.e),.l (f.svs.map Sv.e),.l (l.map Cp.e)]∧l.length≤f.cps.length+1∧∀x,x∈l→x∈f.cps∨x=c:=by
 have hF:=s_l2Fleet_eq hz
 have hco:=s_l2CopyOf_eq hc.2.2.2.2.2.2.1
 have hlc:f.cps.length<big:=by simp only[big];omega
 obtain ⟨j,hj,h1⟩:=ev_lb (l:=f.cps) c.name (body:=ap30 s_l8Event.d6) (S:=fun i=>[C.i (i:Nat),.i 3]++E0++c.e++[.s (Go.Ev.bs #[]),.s (Go.Ev.bs #[]),.b false,.b f.pack,.l [],.l [],.l [],.l (f.bts.map Bt.e),.l (f.svs.map Sv.e),.l (f.cps.map Cp.e)])
  (fun i hi=>by
   simp only[E0,Cp.e,jA,jB,apL,jC,jD,s_l8Event.d6,C.I_i,C.L_l,C.S_s,jW,jY,ltL hi,decide_true,jR,jX,w1 hi hlc]
   rw[getD_map' Cp.e hi]
   simp only[Cp.e,jC,C.S_s]
   rw[show Op.bytesLess f.cps[i].name.toList c.name.toList=sLt f.cps[i].name c.name from rfl]
   cases sLt f.cps[i].name c.name<;>simp)
  (by simp[E0,Cp.e,s_l8Event.d6])
  f.cps.length 0 (by omega)
 have hrest:∃r:List Cp,(∀x,x∈r→x∈f.cps)∧r.length≤f.cps.length-j∧ap30 s_l8Event.d8 ([C.i (j:Nat),.i 3]++E0++c.e++[.s (Go.Ev.bs #[]),.s (Go.Ev.bs #[]),.b false,.b f.pack,.l [],.l [],.l [],.l (f.bts.map Bt.e),.l (f.svs.map Sv.e),.l (f.cps.map Cp.e)])=some (.ret [.b f.pack,.b true,.l (f.bts.map Bt.e),.l (f.svs.map Sv.e),.l ((f.cps.take j++[c]++r).map Cp.e)]):=by
  have d7:∀r:List Cp,r.length≤f.cps.length→ap31 s_l8Event.d7 ([C.i (j:Nat),.l (r.map Cp.e),.i 3]++E0++c.e++[.s (Go.Ev.bs #[]),.s (Go.Ev.bs #[]),.b false,.b f.pack,.l (f.cps.map Cp.e),.l [],.l [],.l [],.l (f.bts.map Bt.e),.l (f.svs.map Sv.e)])=some (.ret [.b f.pack,.b true,.l (f.bts.map Bt.e),.l (f.svs.map Sv.e),.l ((f.cps.take j++[c]++r).map Cp.e)]):=fun r hr=>by
   have b1:(j:Int)≤(f.cps.length:Int):=by omega
   have b2:min j f.cps.length≤4294967296:=by omega
   have b3:min j f.cps.length+1≤4294967296:=by omega
   have b4:min j f.cps.length+1+r.length≤4294967296:=by omega
   simp only[Cp.e,Cp.o] at hco
   simp only[E0,Cp.e,jA,jB,apL,jC,jD,s_l8Event.d7,C.I_i,C.L_l,jW,jY,jX,decide_true,jR,hco,call12,jI,b1,List.drop_zero,nils,List.length_take,b2,Nat.zero_add,List.length_nil,List.length_append,rows,List.length_cons,b3,b4,List.map_append,List.map_cons,List.map_nil,List.map_take]
  by_cases hn:j<f.cps.length
  ·have hd:f.cps.drop j=f.cps[j]::f.cps.drop (j+1):=List.drop_eq_getElem_cons hn
   have hl1:(f.cps.drop (j+1)).length≤f.cps.length:=by rw[List.length_drop];omega
   have hb1:(j:Int)≤(f.cps.length:Int):=by omega
   have e1:((f.cps.map Cp.e).take (f.cps.length:Int).toNat).drop (j:Int).toNat=f.cps[j].e::(f.cps.drop (j+1)).map Cp.e:=by
    rw[jY,jY,List.take_of_length_le (by rw[jW];omega),←List.map_drop,hd];rfl
   cases hq:sEq f.cps[j].name c.name with
   |true=>
    refine ⟨f.cps.drop (j+1),fun x hx=>List.mem_of_mem_drop hx,by rw[List.length_drop];omega,?_⟩
    rw[←d7 _ hl1]
    have e2:(f.cps[j].name.toList==c.name.toList)=true:=hq
    have hbs:=e1
    simp only[Cp.e] at hbs
    simp only[E0,Cp.e,jA,jB,apL,jC,jD,s_l8Event.d8,C.I_i,C.L_l,C.S_s,jW,jX,decide_true,jR,hb1,Int.le_refl,hbs,List.length_cons,e2,jJ]
    have t1:(((f.cps.drop (j+1)).length+1:Nat):Int)>0:=by omega
    have t2:(0:Int)<(((f.cps.drop (j+1)).length+1:Nat):Int):=by omega
    have t3:(1:Int)≤(((f.cps.drop (j+1)).length+1:Nat):Int):=by omega
    simp only[t1,t2,t3,decide_true,jR,jJ,jY,List.take_succ_cons,List.drop_succ_cons,List.drop_zero]
    rw[List.take_of_length_le (by rw[jW];exact Nat.le_refl _)]
    rfl
   |false=>
    refine ⟨f.cps.drop j,fun x hx=>List.mem_of_mem_drop hx,by rw[List.length_drop];omega,?_⟩
    rw[←d7 _ (by rw[List.length_drop];omega)]
    have e2:(f.cps[j].name.toList==c.name.toList)=false:=hq
    have hbs:=e1
    simp only[Cp.e] at hbs
    simp only[E0,Cp.e,jA,jB,apL,jC,jD,s_l8Event.d8,C.I_i,C.L_l,C.S_s,jW,jX,decide_true,jR,hb1,Int.le_refl,hbs,List.length_cons,e2,jJ]
    have t1:(((f.cps.drop (j+1)).length+1:Nat):Int)>0:=by omega
    have t2:(0:Int)<(((f.cps.drop (j+1)).length+1:Nat):Int):=by omega
    simp only[t1,t2,decide_true,jR,jS,jJ,hd,List.map_cons]
    rfl
  ·refine ⟨[],fun x hx=>by simp at hx,by simp,?_⟩
   rw[←d7 _ (by simp)]
   have e1:((f.cps.map Cp.e).take (f.cps.length:Int).toNat).drop (j:Int).toNat=[]:=by
    rw[jY,jY];apply List.drop_eq_nil_of_le;rw[List.length_take,jW];omega
   have hb1:(j:Int)≤(f.cps.length:Int):=by omega
   simp only[E0,Cp.e,jA,jB,apL,jC,jD,s_l8Event.d8,C.I_i,C.L_l,C.S_s,jW,jX,decide_true,jR,hb1,Int.le_refl,e1,List.length_nil,jJ]
   rfl
 obtain ⟨r,r1,r2,r3⟩:=hrest
 refine ⟨f.cps.take j++[c]++r,?_,?_,fun x hx=>?_⟩
 ·simp only[s_l8Event,ev3,E0,Fl.e,Cp.e,jA,jB] at hF h1 r3⊢
  simp only[s_l8Event.d9,apL,jC,jD,hF,call4,jI,C.I_i,C.L_l,nils]
  simp only[show ((3:Int)==1)=false from rfl,show ((3:Int)==2)=false from rfl,show ((3:Int)==3)=true from rfl,jS,jR]
  simp only[Int.natCast_zero] at h1
  erw[h1]
  simp only[bindBlk_self,r3]
  rfl
 ·simp only[List.length_append,List.length_take,List.length_cons,List.length_nil];omega
 ·rcases List.mem_append.1 hx with hx|hx
  ·rcases List.mem_append.1 hx with hx|hx
   ·exact .inl (List.mem_of_mem_take hx)
   ·exact .inr (List.mem_singleton.1 hx)
  ·exact .inl (r1 x hx)
theorem event5 (nm at_:Str) (h12:f.bts.length≤1000) (h60:f.cps.length≤1000):
  ∃(l:List Cp) (ok:Bool),s_l8Event (f.e++ev5 nm at_)=some [.b f.pack,.b ok,.l (f.bts.map Bt.e),.l (f.svs.map Sv.e),.l (l.map Cp.e)]∧l.length=f.cps.length∧∀x,x∈l→x∈f.cps∨∃y,y∈f.cps∧x= {y with at_:=at_}:=by
 have hF:=s_l2Fleet_eq hz
 have hC:=s_l2Copy_eq f nm (by omega)
 have hB:=s_l2Berth_eq f at_ (by omega)
 have sd:=findIx_at (fun x:Cp=>sEq x.name nm) f.cps 0
 have fin:s_l8Event (f.e++ev5 nm at_)=bif decide (cIx f nm<0) then some [.b f.pack,.b false,.l (f.bts.map Bt.e),.l (f.svs.map Sv.e),.l (f.cps.map Cp.e)] else bif (!(at_.toList==(Go.Ev.bs #[]).toList))&&decide (bIx f at_<0) then some [.b f.pack,.b false,.l (f.bts.map Bt.e),.l (f.svs.map Sv.e),.l (f.cps.map Cp.e)] else bif decide (0≤cIx f nm)&&decide (cIx f nm<(f.cps.length:Int)) then some [.b f.pack,.b true,.l (f.bts.map Bt.e),.l (f.svs.map Sv.e),.l ((f.cps.map Cp.e).set (cIx f nm).toNat (setCs ((f.cps.map Cp.e).getD (cIx f nm).toNat []) 11 [.s at_]))] else none:=by
  simp only[Fl.e] at hF
  simp only[Fl.e,jA,jB] at hC hB
  simp only[s_l8Event,ev5,E0,Fl.e,jA,jB]
  simp only[s_l8Event.d9,apL,jC,jD,hF,call4,call1,jI,C.I_i,C.L_l,C.S_s,nils,hC,hB]
  simp only[show ((5:Int)==1)=false from rfl,show ((5:Int)==2)=false from rfl,show ((5:Int)==3)=false from rfl,show ((5:Int)==4)=false from rfl,show ((5:Int)==5)=true from rfl,jS,jR]
  rw[jW]
  cases decide (cIx f nm<0)<;>cases (at_.toList==(Go.Ev.bs #[]).toList)<;>cases decide (bIx f at_<0)<;>cases decide (0≤cIx f nm)<;>cases decide (cIx f nm<(f.cps.length:Int))<;>rfl
 rw[fin]
 rcases sd with sd|⟨i,hi,e1,e2⟩
 ·rw[show decide (cIx f nm<0)=true from decide_eq_true sd,jR]
  exact ⟨f.cps,false,rfl,rfl,fun x hx=>.inl hx⟩
 ·have e1:cIx f nm=((i:Nat):Int):=by rw[show cIx f nm=findIx (fun x:Cp=>sEq x.name nm) f.cps 0 from rfl,e1,Nat.zero_add]
  rw[e1,show decide (((i:Nat):Int)<0)=false from decide_eq_false (by omega),jS]
  cases (!(at_.toList==(Go.Ev.bs #[]).toList))&&decide (bIx f at_<0) with
  |true=>exact ⟨f.cps,false,rfl,rfl,fun x hx=>.inl hx⟩
  |false=>
   rw[jS,ltL hi,show decide (0≤((i:Nat):Int))=true from decide_eq_true (by omega),jY,getD_map' Cp.e hi]
   refine ⟨f.cps.set i {f.cps[i] with at_:=at_},true,?_,List.length_set,fun x hx=>?_⟩
   ·rw[List.map_set];rfl
   ·rcases List.mem_or_eq_of_mem_set hx with hx|hx
    ·exact .inl hx
    ·exact .inr ⟨_,List.getElem_mem hi,hx⟩
end
end Go.Ev
namespace Go.Ev
section
variable {f:Fl} (hz:f.Sz 1048576)
include hz
theorem happen {k:Int} (hk1:1≤k) (hk5:k≤5) {E:List C} (hE:E.length=20) {l:List Cp} {ok:Bool} (hx:({f with cps:=l}:Fl).Sz 1048576) (he:s_l8Event (f.e++(.i k::E))=some [.b f.pack,.b ok,.l (f.bts.map Bt.e),.l (f.svs.map Sv.e),.l (l.map Cp.e)]):
  ∃(x:Fl) (code:Int),s_PilotHappen (f.e++(.i k::E))=some [.b x.pack,.i code,.l (x.bts.map Bt.e),.l (x.svs.map Sv.e),.l (x.cps.map Cp.e)]∧(code=0→x= {f with cps:=l}∧validF x=true):=by
 have v1:=s_PilotValid_eq hz
 have v2:=s_PilotValid_eq hx
 have w:=s_l1In_eq k 1 5
 have w':within k 1 5=true:=by simp[within,hk1,hk5]
 have z:∀code:Int,code≠0→∃(x:Fl) (c:Int),some [C.b false,.i code,.l [],.l [],.l []]=some [.b x.pack,.i c,.l (x.bts.map Bt.e),.l (x.svs.map Sv.e),.l (x.cps.map Cp.e)]∧(c=0→x= {f with cps:=l}∧validF x=true):=fun code h=>⟨⟨false,[],[],[]⟩,code,rfl,fun h'=>absurd h' h⟩
 match E,hE with
 |[e1,e2,e3,e4,e5,e6,e7,e8,e9,e10,e11,e12,e13,e14,e15,e16,e17,e18,e19,e20],_=>
  simp only[Fl.e,jA,jB] at he v1 v2
  simp only[s_PilotHappen,s_PilotHappen.d2,Fl.e,jA,jB,apL,jC,jD,v1,call1,jI,he,call5,C.B_b,C.L_l,v2,nils]
  cases hv:validF f with
  |false=>exact z 1 (by decide)
  |true=>
   cases ok with
   |false=>exact z 3 (by decide)
   |true=>
    cases hv2:validF {f with cps:=l} with
    |false=>exact z 2 (by decide)
    |true=>
     refine ⟨{f with cps:=l},0,?_,fun _=>⟨rfl,hv2⟩⟩
     simp only[s_PilotHappen.d1,apL,jC,jD,jZ,jS,jR,jJ,C.B_b,w,w',call1,jI,C.L_l]
     rfl
end
structure Dr (bts:List Bt) (svs:List Sv) (pk:Bool) (f:Fl):Prop where
 b:f.bts=bts
 s:f.svs=svs
 p:f.pack=pk
 n:f.cps.length≤60
 z:∀c,c∈f.cps→c.Sz 1000
 v:f.cps=[]∨validF f=true
theorem Cp.Sz.up {c:Cp} (h:c.Sz 1000):c.Sz 1048576:=⟨by have:=h.1;omega,by have:=h.2.1;omega,by have:=h.2.2.1;omega,by have:=h.2.2.2.1;omega,by have:=h.2.2.2.2.1;omega,by have:=h.2.2.2.2.2.1;omega,by have:=h.2.2.2.2.2.2.1;omega,fun x hx=>Nat.le_trans (h.2.2.2.2.2.2.2 x hx) (by decide)⟩
theorem Bt.Sz.up {b:Bt} (h:b.Sz 1000):b.Sz 1048576:=⟨by have:=h.1;omega,by have:=h.2.1;omega,by have:=h.2.2.1;omega,fun x hx=>Nat.le_trans (h.2.2.2 x hx) (by decide)⟩
theorem Fl.Sz.up {f:Fl} (h:f.Sz 1000):f.Sz 1048576:=⟨⟨by have:=h.1.1;omega,fun b hb=>(h.1.2 b hb).up⟩,⟨by have:=h.2.1.1;omega,fun s hs=>Nat.le_trans (h.2.1.2 s hs) (by decide)⟩,by have:=h.2.2.1;omega,fun c hc=>(h.2.2.2 c hc).up⟩
section
variable {bts:List Bt} {svs:List Sv} {pk:Bool} (hbt:bts.length≤12∧∀b,b∈bts→b.Sz 1000) (hsv:svs.length≤30∧∀s,s∈svs→s.Sz 1000)
include hbt hsv
theorem Dr.szD {f:Fl} (D:Dr bts svs pk f):f.Sz 1000:=by
 refine ⟨?_,?_,by have:=D.n;omega,D.z⟩
 ·rw[D.b];exact ⟨by omega,hbt.2⟩
 ·rw[D.s];exact ⟨by omega,hsv.2⟩
theorem Dr.ev3 {f:Fl} (D:Dr bts svs pk f) {c:Cp} (hc:c.Sz 1000):
  ∃(x:Fl) (code:Int),s_PilotHappen (f.e++Go.Ev.ev3 c)=some [.b x.pack,.i code,.l (x.bts.map Bt.e),.l (x.svs.map Sv.e),.l (x.cps.map Cp.e)]∧(code=0→Dr bts svs pk x):=by
 have hz:=(D.szD hbt hsv).up
 obtain ⟨l,h1,h2,h3⟩:=event3 hz hc.up (by have:=D.n;omega)
 have hl:∀x,x∈l→x.Sz 1000:=fun x hx=>(h3 x hx).elim (D.z x) (fun e=>e▸hc)
 have hx:({f with cps:=l}:Fl).Sz 1048576:=⟨hz.1,hz.2.1,by show l.length≤1048576;have:=D.n;omega,fun x h=>(hl x h).up⟩
 have e3:Go.Ev.ev3 c=.i 3::(E0++c.e++[.s (Go.Ev.bs #[]),.s (Go.Ev.bs #[])]):=by simp only[Go.Ev.ev3,jA]
 rw[e3] at h1⊢
 obtain ⟨x,code,g1,g2⟩:=happen hz (by decide) (by decide) (by simp[E0,Cp.e]) hx h1
 refine ⟨x,code,g1,fun h=>?_⟩
 obtain ⟨rfl,q⟩:=g2 h
 exact ⟨D.b,D.s,D.p,cps_60 (vb_of q),hl,.inr q⟩
theorem Dr.ev5 {f:Fl} (D:Dr bts svs pk f) {nm at_:Str} (ha:at_.size≤1000):
  ∃(x:Fl) (code:Int),s_PilotHappen (f.e++Go.Ev.ev5 nm at_)=some [.b x.pack,.i code,.l (x.bts.map Bt.e),.l (x.svs.map Sv.e),.l (x.cps.map Cp.e)]∧(code=0→Dr bts svs pk x):=by
 have hz:=(D.szD hbt hsv).up
 obtain ⟨l,ok,h1,h2,h3⟩:=event5 hz nm at_ (by rw[D.b];omega) (by have:=D.n;omega)
 have hl:∀x,x∈l→x.Sz 1000:=fun x hx=>(h3 x hx).elim (D.z x) (fun ⟨y,hy,e⟩=>by
  have:=D.z y hy
  rw[e]
  exact ⟨this.1,this.2.1,this.2.2.1,this.2.2.2.1,this.2.2.2.2.1,ha,this.2.2.2.2.2.2⟩)
 have hx:({f with cps:=l}:Fl).Sz 1048576:=⟨hz.1,hz.2.1,by show l.length≤1048576;have:=D.n;omega,fun x h=>(hl x h).up⟩
 have e5:Go.Ev.ev5 nm at_=.i 5::(E0++[.s (Go.Ev.bs #[]),.s (Go.Ev.bs #[]),.i 0,.i 0,.i 0,.i 0,.s (Go.Ev.bs #[]),.l [],.i 0,.s (Go.Ev.bs #[]),.s (Go.Ev.bs #[]),.s (Go.Ev.bs #[]),.s nm,.s at_]):=by simp only[Go.Ev.ev5,jA]
 rw[e5] at h1⊢
 obtain ⟨x,code,g1,g2⟩:=happen hz (by decide) (by decide) (by simp[E0]) hx h1
 refine ⟨x,code,g1,fun h=>?_⟩
 obtain ⟨rfl,q⟩:=g2 h
 exact ⟨D.b,D.s,D.p,cps_60 (vb_of q),hl,.inr q⟩
end
end Go.Ev
namespace Go.Ev
section
variable {bs:List (List C)} (hb:BY bs) (hl:bs.length≤2000)
include hb hl
theorem dr_d1 (pk:Bool):∀(d n:Nat) (L:List Bt) (p:Int),n=L.length+d→n≤10→(∀b,b∈L→b.Sz 1000)→0≤p→p≤1125899906842624-40000+(0-100)*d→
  ∃(L':List Bt) (p':Int),lim (ap12 s_l2Draw.d1) [.i n,.i L.length,.l bs,.i p,.b false,.b pk,.l [],.l [],.l [],.l (L.map Bt.e),.l [],.l []]=some (.brk 0 [.l bs,.i p',.b false,.b pk,.l [],.l [],.l [],.l (L'.map Bt.e),.l [],.l []])∧L'.length=n∧(∀b,b∈L'→b.Sz 1000)∧p≤p'∧p'≤p+10*d:=by
 intro d
 induction d with
 |zero=>
  intro n L p hn hn10 hL h0 h1
  refine ⟨L,p,lim_brk ?_,by omega,hL,by omega,by omega⟩
  have:¬((L.length:Int)<(n:Int)):=by omega
  simp only[apL,jC,jD,s_l2Draw.d1,C.I_i,this,decide_false,jS,C.L_l]
 |succ d ih=>
  intro n L p hn hn10 hL h0 h1
  obtain ⟨s,g2,hs⟩:=s_dec (n:=L.length) (by omega)
  have b1:(Go.Ev.bs #[98]).size=1:=rfl
  obtain ⟨b,p1,g1,a1,a2,a3,a4⟩:=berth_ok hb hl (nm:=Go.Ev.bs #[98]++s) (by rw[ByteArray.size_append,b1];omega) (p:=p) h0 (by omega)
  have c0:(L.length:Int)<(n:Int):=by omega
  have c1:1+s.size≤4294967296:=by omega
  have c2:L.length+1≤4294967296:=by omega
  have ww:w64 ((L.length:Int)+1)=(((L++[b]).length:Nat):Int):=by rw[w64_of (by omega) (by omega)];simp
  obtain ⟨L',p',q1,q2,q3,q4,q5⟩:=ih n (L++[b]) p1 (by simp;omega) hn10 (fun x hx=>by
   rcases List.mem_append.1 hx with hx|hx
   ·exact hL x hx
   ·rw[List.mem_singleton.1 hx];exact a2) (by omega) (by omega)
  refine ⟨L',p',?_,q2,q3,by omega,by omega⟩
  rw[←q1]
  apply lim_again
  simp only[apL,jC,jD,s_l2Draw.d1,C.I_i,c0,decide_true,jR,g2,call1,jI,C.S_s,b1,c1,g1,call8,C.L_l,jW,rows,List.length_cons,List.length_nil,Nat.zero_add,c2,ww,List.map_append,List.map_cons,List.map_nil,Bt.e]
theorem dr_d2 (pk:Bool) (bt:List (List C)):∀(d:Nat) (L:List Sv) (p:Int),L.length+d=4→(∀s,s∈L→s.Sz 1000)→0≤p→p≤1125899906842624-40000+(0-100)*d→
  ∃(L':List Sv) (p':Int),lim (ap11 s_l2Draw.d2) [.i L.length,.l bs,.i p,.b false,.b pk,.l [],.l [],.l [],.l bt,.l (L.map Sv.e),.l []]=some (.brk 2 [.l bs,.i p',.b false,.b pk,.l [],.l [],.l [],.l bt,.l (L'.map Sv.e),.l []])∧L'.length=4∧(∀s,s∈L'→s.Sz 1000)∧p≤p'∧p'≤p+10*d:=by
 intro d
 induction d with
 |zero=>
  intro L p hn hL h0 h1
  refine ⟨L,p,lim_brk ?_,by omega,hL,by omega,by omega⟩
  have:¬((L.length:Int)<4):=by omega
  simp only[apL,jC,jD,s_l2Draw.d2,C.I_i,this,decide_false,jS,C.L_l]
 |succ d ih=>
  intro L p hn hL h0 h1
  obtain ⟨k,hk,e⟩:=pk_ok hb hl h0 (show p≤1125899906842624 by omega) (n:=5) (by omega) (by omega)
  have c0:(L.length:Int)<4:=by omega
  have c2:L.length+1≤4294967296:=by omega
  have hsv:∃sv:Str,((rows [[C.s (Go.Ev.bs #[99,97,99,104,101])],[C.s (Go.Ev.bs #[100,98])],[C.s (Go.Ev.bs #[106,111,98])],[C.s (Go.Ev.bs #[119,101,98])]]).getD L.length []).getD 0 .nil=.s sv∧sv.size≤10:=by
   generalize L.length=n at c0
   rcases n with _|_|_|_|n
   ·exact ⟨_,rfl,by decide⟩
   ·exact ⟨_,rfl,by decide⟩
   ·exact ⟨_,rfl,by decide⟩
   ·exact ⟨_,rfl,by decide⟩
   ·omega
  obtain ⟨sv,v1,v2⟩:=hsv
  have l1:(L.length:Int)<((rows [[C.s (Go.Ev.bs #[99,97,99,104,101])],[C.s (Go.Ev.bs #[100,98])],[C.s (Go.Ev.bs #[106,111,98])],[C.s (Go.Ev.bs #[119,101,98])]]).length:Int):=c0
  have ww:w64 ((L.length:Int)+1)=(((L++[(⟨sv,k⟩:Sv)]).length:Nat):Int):=by rw[w64_of (by omega) (by omega)];simp
  obtain ⟨L',p',q1,q2,q3,q4,q5⟩:=ih (L++[⟨sv,k⟩]) (p+1) (by simp;omega) (fun x hx=>by
   rcases List.mem_append.1 hx with hx|hx
   ·exact hL x hx
   ·rw[List.mem_singleton.1 hx];show sv.size≤1000;omega) (by omega) (by omega)
  refine ⟨L',p',?_,q2,q3,by omega,by omega⟩
  rw[←q1]
  apply lim_again
  simp only[apL,jC,jD,s_l2Draw.d2,C.I_i,c0,l1,decide_true,jR,jX,jY,v1,e,call3,jI,C.L_l,jW]
  simp only[rows,List.length_cons,List.length_nil,Nat.zero_add,c2,ww,List.map_append,List.map_cons,List.map_nil,Sv.e,decide_true,jR]
section
variable {bts:List Bt} {svs:List Sv} {pk:Bool} (hbt:bts.length≤12∧∀b,b∈bts→b.Sz 1000) (hsv:svs.length≤30∧∀s,s∈svs→s.Sz 1000)
include hbt hsv
theorem dr_d3 (k:C):∀(n:Nat) (f:Fl) (p:Int),Dr bts svs pk f→n≤20→0≤p→p≤1125899906842624-35000+(0-1000)*n→
  ∃(f':Fl) (p':Int),lim (ap12 s_l2Draw.d3) [k,.i n,.l bs,.i p,.b false,.b f.pack,.l (f.bts.map Bt.e),.l (f.svs.map Sv.e),.l (f.cps.map Cp.e),.l [],.l [],.l []]=some (.brk 4 [k,.l bs,.i p',.b false,.b f'.pack,.l (f'.bts.map Bt.e),.l (f'.svs.map Sv.e),.l (f'.cps.map Cp.e),.l [],.l [],.l []])∧Dr bts svs pk f'∧p≤p'∧p'≤p+1000*n:=by
 intro n
 induction n with
 |zero=>
  intro f p D hn h0 h1
  refine ⟨f,p,lim_brk ?_,D,by omega,by omega⟩
  rfl
 |succ n ih=>
  intro f p D hn h0 h1
  obtain ⟨c,p1,g1,a1,a2,a3⟩:=copy_ok hb hl (n:=n+1) (by omega) (p:=p) h0 (by omega)
  obtain ⟨x,code,e1,e2⟩:=D.ev3 hbt hsv a1
  have c0:(((n+1:Nat):Int)>0):=by omega
  have ww:w64 (((n+1:Nat):Int)-1)=(n:Int):=by rw[w64_of (by omega) (by omega)];omega
  have stp:ap12 s_l2Draw.d3 [k,.i (n+1:Nat),.l bs,.i p,.b false,.b f.pack,.l (f.bts.map Bt.e),.l (f.svs.map Sv.e),.l (f.cps.map Cp.e),.l [],.l [],.l []]=bif code==0 then some (.again [k,.i n,.l bs,.i p1,.b false,.b x.pack,.l (x.bts.map Bt.e),.l (x.svs.map Sv.e),.l (x.cps.map Cp.e),.l [],.l [],.l []]) else some (.again [k,.i n,.l bs,.i p1,.b false,.b f.pack,.l (f.bts.map Bt.e),.l (f.svs.map Sv.e),.l (f.cps.map Cp.e),.l [],.l [],.l []]):=by
   simp only[Fl.e,ev3,E0,Cp.e,jA,jB] at e1
   simp only[Cp.e,jA,jB] at g1
   simp only[apL,jC,jD,s_l2Draw.d3,C.I_i,c0,decide_true,jR,g1,call14,jI,nils,e1,call5,C.L_l,ww]
  cases hq:(code==0) with
  |true=>
   obtain ⟨f',p',q1,q2,q3,q4⟩:=ih x p1 (e2 (by simpa using hq)) (by omega) (by omega) (by omega)
   refine ⟨f',p',?_,q2,by omega,by omega⟩
   rw[lim_again (by rw[stp,hq];rfl),q1]
  |false=>
   obtain ⟨f',p',q1,q2,q3,q4⟩:=ih f p1 D (by omega) (by omega) (by omega)
   refine ⟨f',p',?_,q2,by omega,by omega⟩
   rw[lim_again (by rw[stp,hq];rfl),q1]
end
end
end Go.Ev
namespace Go.Ev
section
variable {bs:List (List C)} (hb:BY bs) (hl:bs.length≤2000)
include hb hl
section
variable {bts:List Bt} {svs:List Sv} {pk:Bool} (hbt:(1≤bts.length∧bts.length≤12)∧∀b,b∈bts→b.Sz 1000) (hsv:svs.length≤30∧∀s,s∈svs→s.Sz 1000)
include hbt hsv
abbrev st5 (k:C) (i:Int) (bs:List (List C)) (p:Int) (f:Fl):List C:=[k,.i i,.l bs,.i p,.b false,.b f.pack,.l (f.bts.map Bt.e),.l (f.svs.map Sv.e),.l (f.cps.map Cp.e),.l [],.l [],.l []]
theorem dr_d4 (k:C) {f:Fl} (D:Dr bts svs pk f) {i:Nat} (hi:i<f.cps.length) (b:Bt) (hbb:b.name.size≤1000) (fl:Bool) (p:Int):
  ∃f',ap19 s_l2Draw.d4 ([k,.i i,.b fl,.l bs,.i p,.b false]++f.e++b.e++[.l [],.l [],.l []])=some (.again (st5 k (i+1:Nat) bs p f'))∧Dr bts svs pk f':=by
 have hlc:f.cps.length<big:=by have:=D.n;simp only[big];omega
 obtain ⟨x,code,e1,e2⟩:=D.ev5 ⟨hbt.1.2,hbt.2⟩ hsv (nm:=f.cps[i].name) (at_:=b.name) hbb
 cases fl with
 |false=>
  refine ⟨f,?_,D⟩
  simp only[st5,Fl.e,Bt.e,jA,jB,apL,jC,jD,s_l2Draw.d4,C.B_b,jS,C.I_i,w1 hi hlc,C.L_l]
 |true=>
  have stp:ap19 s_l2Draw.d4 ([k,.i i,.b true,.l bs,.i p,.b false]++f.e++b.e++[.l [],.l [],.l []])=bif code==0 then some (.again (st5 k (i+1:Nat) bs p x)) else some (.again (st5 k (i+1:Nat) bs p f)):=by
   simp only[Fl.e,ev5,E0,jA,jB] at e1
   simp only[st5,Fl.e,Bt.e,jA,jB,apL,jC,jD,s_l2Draw.d4,C.B_b,jR,C.I_i,w1 hi hlc,C.L_l,jW,ltL hi,jX,decide_true,jY]
   rw[getD_map' Cp.e hi]
   simp only[Cp.e,jC,jD,nils,e1,call5,jI,C.I_i,C.L_l]
  cases hq:(code==0) with
  |true=>exact ⟨x,by rw[stp,hq];rfl,e2 (by simpa using hq)⟩
  |false=>exact ⟨f,by rw[stp,hq];rfl,D⟩
theorem dr_d5 (a:Int):∀(d i:Nat) (f:Fl) (p:Int),60≤i+d→Dr bts svs pk f→0≤p→p≤1125899906842624-20000+(0-10)*d→
  ∃(f':Fl) (p':Int),lim (ap12 s_l2Draw.d5) (st5 (.i a) i bs p f)=some (.brk 6 [.l bs,.i p',.b false,.b f'.pack,.l (f'.bts.map Bt.e),.l (f'.svs.map Sv.e),.l (f'.cps.map Cp.e),.l [],.l [],.l []])∧Dr bts svs pk f'∧p≤p'∧p'≤p+10*d:=by
 intro d
 induction d with
 |zero=>
  intro i f p hn D h0 h1
  refine ⟨f,p,lim_brk ?_,D,by omega,by omega⟩
  have:¬((i:Int)<(f.cps.length:Int)):=by have:=D.n;omega
  simp only[st5,apL,jC,jD,s_l2Draw.d5,C.I_i,C.L_l,jW,this,decide_false,jS]
 |succ d ih=>
  intro i f p hn D h0 h1
  by_cases hi:i<f.cps.length
  ·have hlc:f.cps.length<big:=by have:=D.n;simp only[big];omega
   have hne:f.cps≠[]:=fun h=>by rw[h] at hi;simp at hi
   have hv:validF f=true:=D.v.resolve_left hne
   have hz:=(D.szD ⟨hbt.1.2,hbt.2⟩ hsv).up
   obtain ⟨m,hm,g1⟩:=pk_ok hb hl h0 (show p≤1125899906842624 by omega) (n:=4) (by omega) (by omega)
   have hn1:f.bts.length=bts.length:=by rw[D.b]
   obtain ⟨j,hj,g2⟩:=pk_ok hb hl (p:=p+1) (n:=(f.bts.length:Int)) (by omega) (by omega) (by omega) (by omega)
   have hj':j<f.bts.length:=by omega
   obtain ⟨t,ht,g3⟩:=pk_ok hb hl (p:=p+1+1) (n:=8) (by omega) (by omega) (by omega) (by omega)
   have hcm:=List.getElem_mem hi
   have hbm:=List.getElem_mem hj'
   have vb:=vb_of hv
   have hf:=s_l3Fits_eq hz (hz.2.2.2 _ hcm) (hz.1.2 _ hbm) (vb.bb _ hbm) vb (vb.cb _ hcm).1 (vb.cb _ hcm).2.1 true
   have hbs:(f.bts[j]).name.size≤1000:=by
    have:f.bts[j]∈bts:=by rw[←D.b];exact hbm
    exact (hbt.2 _ this).1
   have key:∀(fl:Bool) (q:Int),p≤q→q≤p+10→∃(f':Fl) (p':Int),(∃ys,ap19 s_l2Draw.d4 ([.i a,.i i,.b fl,.l bs,.i q,.b false]++f.e++f.bts[j].e++[.l [],.l [],.l []])=some (.again ys)∧lim (ap12 s_l2Draw.d5) ys=some (.brk 6 [.l bs,.i p',.b false,.b f'.pack,.l (f'.bts.map Bt.e),.l (f'.svs.map Sv.e),.l (f'.cps.map Cp.e),.l [],.l [],.l []]))∧Dr bts svs pk f'∧p≤p'∧p'≤p+10*(d+1:Nat):=fun fl q q1 q2=>by
    obtain ⟨x,r1,r2⟩:=dr_d4 hb hl hbt hsv (.i a) D hi f.bts[j] hbs fl q
    obtain ⟨f',p',r3,r4,r5,r6⟩:=ih (i+1) x q (by omega) r2 (by omega) (by omega)
    exact ⟨f',p',⟨_,r1,r3⟩,r4,by omega,by omega⟩
   have key0:∃(f':Fl) (p':Int),(∃ys,some (Out.again (st5 (.i a) (i+1:Nat) bs (p+1) f))=some (.again ys)∧lim (ap12 s_l2Draw.d5) ys=some (.brk 6 [.l bs,.i p',.b false,.b f'.pack,.l (f'.bts.map Bt.e),.l (f'.svs.map Sv.e),.l (f'.cps.map Cp.e),.l [],.l [],.l []]))∧Dr bts svs pk f'∧p≤p'∧p'≤p+10*(d+1:Nat):=by
    obtain ⟨f',p',r3,r4,r5,r6⟩:=ih (i+1) f (p+1) (by omega) D (by omega) (by omega)
    exact ⟨f',p',⟨_,rfl,r3⟩,r4,by omega,by omega⟩
   have stp:ap12 s_l2Draw.d5 (st5 (.i a) i bs p f)=bif decide ((m:Int)<a) then (bif !((fitsN f f.cps[i] f.bts[j] true:Nat):Int)==0 then bif decide (((fitsN f f.cps[i] f.bts[j] true:Nat):Int)<6) then ap19 s_l2Draw.d4 ([.i a,.i i,.b ((t:Int)==0),.l bs,.i (p+1+1+1),.b false]++f.e++f.bts[j].e++[.l [],.l [],.l []]) else ap19 s_l2Draw.d4 ([.i a,.i i,.b false,.l bs,.i (p+1+1),.b false]++f.e++f.bts[j].e++[.l [],.l [],.l []]) else ap19 s_l2Draw.d4 ([.i a,.i i,.b true,.l bs,.i (p+1+1),.b false]++f.e++f.bts[j].e++[.l [],.l [],.l []])) else some (.again (st5 (.i a) (i+1:Nat) bs (p+1) f)):=by
    simp only[Fl.e,Cp.e,Bt.e,jA,jB] at hf
    simp only[st5,Fl.e,apL,jC,jD,s_l2Draw.d5,C.I_i,C.L_l,jW,ltL hi,decide_true,jR,g1,call3,jI,g2,jX,ltL hj',jY,w1 hi hlc]
    rw[getD_map' Cp.e hi,getD_map' Bt.e hj']
    simp only[Cp.e,Bt.e,jC,jD,hf,call1,jI,C.I_i,g3,C.L_l]
    cases decide ((m:Int)<a)<;>cases (((fitsN f f.cps[i] f.bts[j] true:Nat):Int)==0)<;>cases decide (((fitsN f f.cps[i] f.bts[j] true:Nat):Int)<6)<;>rfl
   have fin:∃(f':Fl) (p':Int),(∃ys,ap12 s_l2Draw.d5 (st5 (.i a) i bs p f)=some (.again ys)∧lim (ap12 s_l2Draw.d5) ys=some (.brk 6 [.l bs,.i p',.b false,.b f'.pack,.l (f'.bts.map Bt.e),.l (f'.svs.map Sv.e),.l (f'.cps.map Cp.e),.l [],.l [],.l []]))∧Dr bts svs pk f'∧p≤p'∧p'≤p+10*(d+1:Nat):=by
    rw[stp]
    cases decide ((m:Int)<a) with
    |false=>exact key0
    |true=>
     cases (((fitsN f f.cps[i] f.bts[j] true:Nat):Int)==0) with
     |true=>exact key true _ (by omega) (by omega)
     |false=>
      cases decide (((fitsN f f.cps[i] f.bts[j] true:Nat):Int)<6) with
      |true=>exact key _ _ (by omega) (by omega)
      |false=>exact key false _ (by omega) (by omega)
   obtain ⟨f',p',⟨ys,r1,r2⟩,r3,r4,r5⟩:=fin
   exact ⟨f',p',by rw[lim_again r1,r2],r3,r4,r5⟩
  ·refine ⟨f,p,lim_brk ?_,D,by omega,by omega⟩
   have:¬((i:Int)<(f.cps.length:Int)):=by omega
   simp only[st5,apL,jC,jD,s_l2Draw.d5,C.I_i,C.L_l,jW,this,decide_false,jS]
end
theorem draw_ok {p:Int} (h0:0≤p) (h1:p≤1125899906842624-70000):
  ∃(f:Fl) (p':Int),s_l2Draw [.l bs,.i p]=some (f.e++[.l bs,.i p'])∧f.Sz 1000∧(f.svs.length=4∧1≤f.bts.length)∧p≤p'∧p'≤p+30000:=by
 obtain ⟨c,hc,g1⟩:=pk_ok hb hl h0 (show p≤1125899906842624 by omega) (n:=2) (by omega) (by omega)
 obtain ⟨n,hn,g2⟩:=pk_ok hb hl (p:=p+1) (n:=5) (by omega) (by omega) (by omega) (by omega)
 have w2:w64 (1+(n:Int))=((n+1:Nat):Int):=by rw[w64_of (by omega) (by omega)];omega
 obtain ⟨bts,p1,q1,q2,q3,q4,q5⟩:=dr_d1 hb hl ((c:Int)==0) (n+1) (n+1) [] (p+1+1) (by simp) (by omega) (fun b hb=>by simp at hb) (by omega) (by omega)
 obtain ⟨svs,p2,r1,r2,r3,r4,r5⟩:=dr_d2 hb hl ((c:Int)==0) (bts.map Bt.e) 4 [] p1 (by simp) (fun b hb=>by simp at hb) (by omega) (by omega)
 obtain ⟨k,hk,g3⟩:=pk_ok hb hl (p:=p2) (n:=4) (by omega) (by omega) (by omega) (by omega)
 obtain ⟨m,hm,g4⟩:=pk_ok hb hl (p:=p2+1) (n:=14) (by omega) (by omega) (by omega) (by omega)
 have w3:w64 (1+(m:Int))=((m+1:Nat):Int):=by rw[w64_of (by omega) (by omega)];omega
 have D0:Dr bts svs ((c:Int)==0) ⟨((c:Int)==0),bts,svs,[]⟩:=⟨rfl,rfl,rfl,by simp,fun c hc=>by simp at hc,.inl rfl⟩
 obtain ⟨f1,p3,t1,t2,t3,t4⟩:=dr_d3 hb hl ⟨by omega,q3⟩ ⟨by omega,r3⟩ (.i k) (m+1) _ (p2+1+1) D0 (by omega) (by omega) (by omega)
 obtain ⟨f2,p4,u1,u2,u3,u4⟩:=dr_d5 hb hl ⟨⟨by omega,by omega⟩,q3⟩ ⟨by omega,r3⟩ (k:Int) 60 0 f1 p3 (by omega) t2 (by omega) (by omega)
 refine ⟨f2,p4,?_,u2.szD ⟨by omega,q3⟩ ⟨by omega,r3⟩,⟨by rw[u2.s,r2],by rw[u2.b];omega⟩,by omega,by omega⟩
 simp only[List.map_nil,List.length_nil,Int.natCast_zero] at q1 r1 t1 u1
 simp only[st5,Int.natCast_zero] at u1
 simp only[s_l2Draw,s_l2Draw.d10,apL,jC,jD,g1,g2,call3,jI,C.I_i,w2,nils,q1,bindBlk_self,s_l2Draw.d9,C.L_l,r1,s_l2Draw.d8,g3,g4,w3,t1,s_l2Draw.d7,u1,s_l2Draw.d6]
 rfl
end
end Go.Ev
namespace Go.Ev
theorem many_loop:∀(m n:Nat) (x acc:Str),n≤m→acc.size+n*x.size≤400→x.size≤800→n≤1000→
  ∃s:Str,lim (ap3 s_l1Many.d1) [.s x,.i n,.s acc]=some (.brk 0 [.s s])∧s.size≤400:=by
 intro m
 induction m with
 |zero=>
  intro n x acc hn h1 h2 h3
  obtain rfl:n=0:=by omega
  exact ⟨acc,lim_brk rfl,by omega⟩
 |succ m ih=>
  intro n x acc hn h1 h2 h3
  by_cases h0:n=0
  ·subst h0;exact ⟨acc,lim_brk rfl,by omega⟩
  ·have c0:((n:Int)>0):=by omega
   have hx:x.size≤400:=by
    have:1*x.size≤n*x.size:=Nat.mul_le_mul_right _ (by omega)
    omega
   have hd:n=2*(n/2)+n%2:=by omega
   have w:w64 ((n:Int).tdiv 2)=((n/2:Nat):Int):=by
    rw[show (n:Int).tdiv 2=((n/2:Nat):Int) by rw[Int.tdiv_eq_ediv_of_nonneg (by omega)];omega,w64_of (by omega) (by omega)]
   have t:(n:Int).tmod 2=((n%2:Nat):Int):=by rw[Int.tmod_eq_emod_of_nonneg (by omega)];omega
   have hs:(x++x).size=x.size+x.size:=ByteArray.size_append
   have hm:n*x.size=n/2*(x.size+x.size)+n%2*x.size:=by
    conv=>lhs;rw[hd]
    rw[Nat.add_mul,Nat.mul_add,Nat.mul_assoc,Nat.two_mul]
   have c1:x.size+x.size≤4294967296:=by omega
   have c2:acc.size+x.size≤4294967296:=by omega
   rcases Nat.mod_two_eq_zero_or_one n with e|e
   ·obtain ⟨s,g1,g2⟩:=ih (n/2) (x++x) acc (by omega) (by rw[hs];rw[e] at hm;omega) (by rw[hs];omega) (by omega)
    refine ⟨s,?_,g2⟩
    rw[←g1]
    apply lim_again
    simp only[apL,jC,jD,s_l1Many.d1,C.I_i,C.S_s,c0,decide_true,jR,t,e,w,c1,show (((0:Nat):Int)==1)=false from rfl,jS]
   ·obtain ⟨s,g1,g2⟩:=ih (n/2) (x++x) (acc++x) (by omega) (by rw[hs,ByteArray.size_append];rw[e] at hm;omega) (by rw[hs];omega) (by omega)
    refine ⟨s,?_,g2⟩
    rw[←g1]
    apply lim_again
    simp only[apL,jC,jD,s_l1Many.d1,C.I_i,C.S_s,c0,decide_true,jR,t,e,w,c1,c2,show (((1:Nat):Int)==1)=true from rfl]
theorem many_ok (x:Str) (n:Nat) (h1:n≤300) (h2:x.size=1):∃s:Str,s_l1Many [.s x,.i n]=some [.s s]∧s.size≤400:=by
 have e0:(Go.Ev.bs #[]).size=0:=rfl
 obtain ⟨s,g1,g2⟩:=many_loop n n x (Go.Ev.bs #[]) (by omega) (by rw[e0,h2];omega) (by omega) (by omega)
 refine ⟨s,?_,g2⟩
 simp only[s_l1Many,s_l1Many.d3,apL,jC,jD,g1,bindBlk_self,s_l1Many.d2]
 rfl
section
variable {bs:List (List C)} (hb:BY bs) (hl:bs.length≤2000)
include hb hl
theorem full_d1 (pk:Bool) (sv:List (List C)) (p:Int):∀(d:Nat) (L:List Bt),L.length+d=2→(∀b,b∈L→b.Sz 1000)→
  ∃L':List Bt,lim (ap11 s_l2Full.d1) [.i L.length,.l bs,.i p,.b false,.b pk,.l [],.l [],.l [],.l (L.map Bt.e),.l sv,.l []]=some (.brk 0 [.l bs,.i p,.b false,.b pk,.l [],.l [],.l [],.l (L'.map Bt.e),.l sv,.l []])∧L'.length=2∧(∀b,b∈L'→b.Sz 1000):=by
 intro d
 induction d with
 |zero=>
  intro L hn hL
  refine ⟨L,lim_brk ?_,by omega,hL⟩
  have:¬((L.length:Int)<2):=by omega
  simp only[apL,jC,jD,s_l2Full.d1,C.I_i,this,decide_false,jS,C.L_l]
 |succ d ih=>
  intro L hn hL
  obtain ⟨s,g2,hs⟩:=s_dec (n:=L.length) (by omega)
  have b1:(Go.Ev.bs #[98]).size=1:=rfl
  have c0:(L.length:Int)<2:=by omega
  have c1:1+s.size≤4294967296:=by omega
  have c2:L.length+1≤4294967296:=by omega
  have ww:w64 ((L.length:Int)+1)=(((L++[(⟨Go.Ev.bs #[98]++s,Go.Ev.bs #[101,97,115,116],[],30,30,false⟩:Bt)]).length:Nat):Int):=by rw[w64_of (by omega) (by omega)];simp
  obtain ⟨L',q1,q2,q3⟩:=ih (L++[⟨Go.Ev.bs #[98]++s,Go.Ev.bs #[101,97,115,116],[],30,30,false⟩]) (by simp;omega) (fun x hx=>by
   rcases List.mem_append.1 hx with hx|hx
   ·exact hL x hx
   ·rw[List.mem_singleton.1 hx]
    exact ⟨by show (Go.Ev.bs #[98]++s).size≤1000;rw[ByteArray.size_append,b1];omega,by show (Go.Ev.bs #[101,97,115,116]).size≤1000;decide,by show 0≤1000;decide,fun m hm=>by simp at hm⟩)
  refine ⟨L',?_,q2,q3⟩
  rw[←q1]
  apply lim_again
  simp only[apL,jC,jD,s_l2Full.d1,C.I_i,c0,decide_true,jR,g2,call1,jI,C.S_s,b1,c1,C.L_l,jW,rows,List.length_cons,List.length_nil,Nat.zero_add,c2,ww,List.map_append,List.map_cons,List.map_nil,Bt.e,nils]
theorem full_d2 (pk:Bool) (bt sv:List (List C)) (A:Nat) (hA:A≤10):∀(d:Nat) (L:List Cp) (p:Int),L.length+d=A+2→(∀s,s∈L→s.Sz 1000)→0≤p→p≤1125899906842624-1000+(0-10)*d→
  ∃(L':List Cp) (p':Int),lim (ap12 s_l2Full.d2) [.i A,.i L.length,.l bs,.i p,.b false,.b pk,.l [],.l [],.l [],.l bt,.l sv,.l (L.map Cp.e)]=some (.brk 2 [.l bs,.i p',.b false,.b pk,.l [],.l [],.l [],.l bt,.l sv,.l (L'.map Cp.e)])∧L'.length≤20∧(∀s,s∈L'→s.Sz 1000)∧p≤p'∧p'≤p+10*d:=by
 intro d
 have w2:w64 ((A:Int)+2)=(A:Int)+2:=w64_of (by omega) (by omega)
 induction d with
 |zero=>
  intro L p hn hL h0 h1
  refine ⟨L,p,lim_brk ?_,by omega,hL,by omega,by omega⟩
  have:¬((L.length:Int)<(A:Int)+2):=by omega
  simp only[apL,jC,jD,s_l2Full.d2,C.I_i,w2,this,decide_false,jS,C.L_l]
 |succ d ih=>
  intro L p hn hL h0 h1
  obtain ⟨k,hk,g1⟩:=pk_ok hb hl h0 (show p≤1125899906842624 by omega) (n:=3) (by omega) (by omega)
  obtain ⟨m,hm,g2⟩:=pk_ok hb hl (p:=p+1) (n:=2) (by omega) (by omega) (by omega) (by omega)
  obtain ⟨t,ht,g3⟩:=pk_ok hb hl (p:=p+1+1) (n:=3) (by omega) (by omega) (by omega) (by omega)
  obtain ⟨u,hu,g4⟩:=pk_ok hb hl (p:=p+1+1+1) (n:=4) (by omega) (by omega) (by omega) (by omega)
  have mb:∀x:C,(mkBy (rows [[x]])).size=1:=fun _=>rfl
  have b1:(Go.Ev.bs #[99]).size=1:=rfl
  have c0:(L.length:Int)<(A:Int)+2:=by omega
  have c2:L.length+1≤4294967296:=by omega
  have c1:1+1≤4294967296:=by omega
  have w:w64 ((L.length:Int)+1)=(((L.length+1:Nat)):Int):=by rw[w64_of (by omega) (by omega)];rfl
  have key:∀(c:Cp) (q:Int),c.Sz 1000→p≤q→q≤p+10→∃(L':List Cp) (p':Int),(∃ys,some (Out.again [.i A,.i (L.length+1:Nat),.l bs,.i q,.b false,.b pk,.l [],.l [],.l [],.l bt,.l sv,.l (L.map Cp.e++[c.e])])=some (.again ys)∧lim (ap12 s_l2Full.d2) ys=some (.brk 2 [.l bs,.i p',.b false,.b pk,.l [],.l [],.l [],.l bt,.l sv,.l (L'.map Cp.e)]))∧L'.length≤20∧(∀s,s∈L'→s.Sz 1000)∧p≤p'∧p'≤p+10*(d+1:Nat):=fun c q hc q1 q2=>by
   obtain ⟨L',p',r1,r2,r3,r4,r5⟩:=ih (L++[c]) q (by simp;omega) (fun x hx=>by
    rcases List.mem_append.1 hx with hx|hx
    ·exact hL x hx
    ·rw[List.mem_singleton.1 hx];exact hc) (by omega) (by omega)
   rw[List.length_append,List.map_append] at r1
   exact ⟨L',p',⟨_,rfl,r1⟩,r2,r3,by omega,by omega⟩
  have csz:∀(y:C) (rk rm:Int) (fx a:Str),fx.size≤10→a.size≤10→(Cp.mk (Go.Ev.bs #[99]++mkBy (rows [[y]])) (Go.Ev.bs #[119,101,98]) rk 0 1 rm (Go.Ev.bs #[]) [] 0 (Go.Ev.bs #[]) fx a).Sz 1000:=fun y rk rm fx a h1 h2=>
   ⟨by show (Go.Ev.bs #[99]++mkBy (rows [[y]])).size≤1000;rw[ByteArray.size_append,b1,mb];decide,by show (Go.Ev.bs #[119,101,98]).size≤1000;decide,by show (Go.Ev.bs #[]).size≤1000;decide,by show (Go.Ev.bs #[]).size≤1000;decide,by show fx.size≤1000;omega,by show a.size≤1000;omega,by show 0≤1000;decide,fun x hx=>by simp at hx⟩
  have fin:∃(L':List Cp) (p':Int),(∃ys,ap12 s_l2Full.d2 [.i A,.i L.length,.l bs,.i p,.b false,.b pk,.l [],.l [],.l [],.l bt,.l sv,.l (L.map Cp.e)]=some (.again ys)∧lim (ap12 s_l2Full.d2) ys=some (.brk 2 [.l bs,.i p',.b false,.b pk,.l [],.l [],.l [],.l bt,.l sv,.l (L'.map Cp.e)]))∧L'.length≤20∧(∀s,s∈L'→s.Sz 1000)∧p≤p'∧p'≤p+10*(d+1:Nat):=by
   simp only[apL,jC,jD,s_l2Full.d2,C.I_i,w2,c0,decide_true,jR,C.S_s,b1,mb,c1,g1,g2,g3,g4,call3,jI,C.L_l,jW,w]
   cases decide ((L.length:Int)<(A:Int)) with
   |true=>
    simp only[jR,rows,List.length_cons,List.length_nil,Nat.zero_add,c2,decide_true]
    exact key (Cp.mk (Go.Ev.bs #[99]++mkBy (rows [[_]])) (Go.Ev.bs #[119,101,98]) k 0 1 m (Go.Ev.bs #[]) [] 0 (Go.Ev.bs #[]) (Go.Ev.bs #[]) (Go.Ev.bs #[98,48])) _ (csz _ _ _ _ _ (by decide) (by decide)) (by omega) (by omega)
   |false=>
    cases decide ((t:Int)>0) with
    |true=>
     simp only[jR,jS,rows,List.length_cons,List.length_nil,Nat.zero_add,c2,decide_true]
     exact key (Cp.mk (Go.Ev.bs #[99]++mkBy (rows [[_]])) (Go.Ev.bs #[119,101,98]) (w64 (1+(u:Int))) 0 1 m (Go.Ev.bs #[]) [] 0 (Go.Ev.bs #[]) (Go.Ev.bs #[98,48]) (Go.Ev.bs #[])) _ (csz _ _ _ _ _ (by decide) (by decide)) (by omega) (by omega)
    |false=>
     simp only[jR,jS,rows,List.length_cons,List.length_nil,Nat.zero_add,c2,decide_true]
     exact key (Cp.mk (Go.Ev.bs #[99]++mkBy (rows [[_]])) (Go.Ev.bs #[119,101,98]) k 0 1 m (Go.Ev.bs #[]) [] 0 (Go.Ev.bs #[]) (Go.Ev.bs #[]) (Go.Ev.bs #[])) _ (csz _ _ _ _ _ (by decide) (by decide)) (by omega) (by omega)
  obtain ⟨L',p',⟨ys,r1,r2⟩,r3⟩:=fin
  exact ⟨L',p',by rw[lim_again r1,r2],r3⟩
theorem full_ok {p:Int} (h0:0≤p) (h1:p≤1125899906842624-70000):
  ∃(f:Fl) (p':Int),s_l2Full [.l bs,.i p]=some [.b f.pack,.l bs,.i p',.l (f.bts.map Bt.e),.l (f.svs.map Sv.e),.l (f.cps.map Cp.e)]∧f.Sz 1000∧p≤p'∧p'≤p+30000:=by
 obtain ⟨c,hc,g1⟩:=pk_ok hb hl h0 (show p≤1125899906842624 by omega) (n:=2) (by omega) (by omega)
 obtain ⟨n,hn,g2⟩:=pk_ok hb hl (p:=p+1) (n:=9) (by omega) (by omega) (by omega) (by omega)
 obtain ⟨k,hk,g3⟩:=pk_ok hb hl (p:=p+1+1) (n:=2) (by omega) (by omega) (by omega) (by omega)
 obtain ⟨bts,q1,q2,q3⟩:=full_d1 hb hl ((c:Int)==0) [[.s (Go.Ev.bs #[119,101,98]),.i n]] (p+1+1) 2 [] (by simp) (fun b hb=>by simp at hb)
 have w2:w64 (10-(k:Int))=((10-k:Nat):Int):=by rw[w64_of (by omega) (by omega)];omega
 obtain ⟨cps,p',r1,r2,r3,r4,r5⟩:=full_d2 hb hl ((c:Int)==0) (bts.map Bt.e) [[.s (Go.Ev.bs #[119,101,98]),.i n]] (10-k) (by omega) (10-k+2) [] (p+1+1+1) (by simp) (fun b hb=>by simp at hb) (by omega) (by omega)
 refine ⟨⟨((c:Int)==0),bts,[⟨Go.Ev.bs #[119,101,98],n⟩],cps⟩,p',?_,⟨⟨by show bts.length≤1000;omega,q3⟩,⟨by show 1≤1000;decide,fun s hs=>?_⟩,by show cps.length≤1000;omega,r3⟩,by omega,by omega⟩
 ·simp only[List.map_nil,List.length_nil,Int.natCast_zero] at q1 r1
  simp only[s_l2Full,s_l2Full.d5,apL,jC,jD,g1,g2,g3,call3,jI,C.I_i,w2,nils,rows,q1,bindBlk_self,s_l2Full.d4,C.L_l,r1,s_l2Full.d3]
  rfl
 ·rw[List.mem_singleton.1 hs];show (Go.Ev.bs #[119,101,98]).size≤1000;decide
end
end Go.Ev
set_option maxHeartbeats 2000000
namespace Go.Ev
abbrev spR (bs:List (List C)) (g:Fl) (p:Int):List C:=[.b g.pack,.l (g.cps.map Cp.e),.l bs,.i p,.l (g.bts.map Bt.e),.l (g.svs.map Sv.e)]
abbrev spN (bs:List (List C)) (g:Fl) (p:Int):R:=some (.nrm [.l bs,.i p,.b false,.b g.pack,.l (g.cps.map Cp.e),.l [],.l [],.l [],.l (g.bts.map Bt.e),.l (g.svs.map Sv.e)])
theorem sp_out {bs:List (List C)} {X:R} {a b:Int} (h:∃(g:Fl) (p:Int),X=spN bs g p∧g.Sz 1048576∧a≤p∧p≤b):∃(g:Fl) (p:Int),finR (bindNrm X (ap10 s_l2Spoil.d4))=some (spR bs g p)∧g.Sz 1048576∧a≤p∧p≤b:=by
 obtain ⟨g,p,h1,h2⟩:=h
 exact ⟨g,p,by rw[h1];rfl,h2⟩
theorem tabS (L:List Str) (hL:∀s,s∈L→s.size≤400) {x:Nat} (h:x<L.length):∃v:Str,((L.map sE).getD x []).getD 0 .nil=.s v∧v.size≤400:=
 ⟨L[x],by rw[getD_map' sE h];rfl,hL _ (List.getElem_mem h)⟩
theorem tabI (L:List Int) {x:Nat} (h:x<L.length):∃v:Int,((L.map fun n=>[C.i n]).getD x []).getD 0 .nil=.i v:=
 ⟨L[x],by rw[getD_map' (fun n=>[C.i n]) h];rfl⟩
theorem tabM (L:List (List Str)) (hL:∀s,s∈L→s.length≤20∧∀m,m∈s→m.size≤20) {x:Nat} (h:x<L.length):∃v:List Str,((L.map fun m=>[C.l (m.map sE)]).getD x []).getD 0 .nil=.l (v.map sE)∧v.length≤20∧∀m,m∈v→m.size≤20:=
 ⟨L[x],by rw[getD_map' (fun m=>[C.l (m.map sE)]) h];rfl,hL _ (List.getElem_mem h)⟩
theorem setE {α:Type} {e:α→List C} {l:List α} {k:Nat} (hk:k<l.length) {i:Nat} {v:List C} {b:α} (h:setCs (e l[k]) i v=e b):(l.map e).set k (setCs ((l.map e).getD k []) i v)=(l.set k b).map e:=by
 rw[getD_map' e hk,h,List.map_set]
theorem spBth {f:Fl} (hz:f.Sz 1000) {b:Bt} (hb:b.Sz 1048576) (k:Nat):({f with bts:=f.bts.set k b}:Fl).Sz 1048576:=
 ⟨⟨by show (f.bts.set k b).length≤_;rw[List.length_set];exact hz.up.1.1,fun x hx=>(List.mem_or_eq_of_mem_set hx).elim (hz.up.1.2 x) (fun h=>h▸hb)⟩,hz.up.2⟩
theorem spSvc {f:Fl} (hz:f.Sz 1000) {b:Sv} (hb:b.Sz 1048576) (k:Nat):({f with svs:=f.svs.set k b}:Fl).Sz 1048576:=
 ⟨hz.up.1,⟨by show (f.svs.set k b).length≤_;rw[List.length_set];exact hz.up.2.1.1,fun x hx=>(List.mem_or_eq_of_mem_set hx).elim (hz.up.2.1.2 x) (fun h=>h▸hb)⟩,hz.up.2.2⟩
theorem spCpy {f:Fl} (hz:f.Sz 1000) {b:Cp} (hb:b.Sz 1048576) (k:Nat):({f with cps:=f.cps.set k b}:Fl).Sz 1048576:=
 ⟨hz.up.1,hz.up.2.1,by show (f.cps.set k b).length≤_;rw[List.length_set];exact hz.up.2.2.1,fun x hx=>(List.mem_or_eq_of_mem_set hx).elim (hz.up.2.2.2 x) (fun h=>h▸hb)⟩
theorem noHole_all (l:List Cp):List.all (l.map Cp.e) (noHole [.str,.str,(.int .i64),(.int .i64),(.int .i64),(.int .i64),.str,(.sl 109),(.int .i64),.str,.str,.str])=true:=by
 rw[List.all_eq_true]
 intro x hx
 obtain ⟨c,_,rfl⟩:=List.mem_map.1 hx
 rfl
theorem trS {l:List Cp} {n:Nat} (h:n<l.length) (x:List C) (y:Lk) (hy:y.e=x):
  ((l.map Cp.e).set n (setCs ((l.map Cp.e).getD n []) 7 [.nil])).set n (setCs (((l.map Cp.e).set n (setCs ((l.map Cp.e).getD n []) 7 [.nil])).getD n []) 7 [.l ((((l.map Cp.e).getD n []).getD 7 .nil).L++[x])])=(l.set n {l[n] with likes:=l[n].likes++[y]}).map Cp.e:=by
 have h0:n<(l.map Cp.e).length:=by rw[jW];exact h
 rw[List.set_set]
 have h1:((l.map Cp.e).set n (setCs ((l.map Cp.e).getD n []) 7 [.nil])).getD n []=setCs ((l.map Cp.e).getD n []) 7 [.nil]:=by
  rw[List.getD_eq_getElem?_getD,List.getElem?_set_self h0];rfl
 rw[h1,getD_map' Cp.e h,List.map_set]
 congr 1
 simp only[Cp.e,setCs,jC,jD,C.L_l,List.map_append,List.map_cons,List.map_nil,hy]
 rfl
section
variable {bs:List (List C)} (hb:BY bs) (hl:bs.length≤2000)
include hb hl
theorem sp_d1 (pk:Bool) (bt sv:List (List C)) (n B:Nat) (hB:B≤20):∀(d:Nat) (l:List Cp) (p:Int) (hn:n<l.length),B≤l[n].likes.length+d→d≤20→(∀c,c∈l→c.Sz 1048576)→0≤p→p≤1125899906842624-1000+(0-10)*d→
  ∃(l':List Cp) (p':Int),lim (ap12 s_l2Spoil.d1) [.i n,.i B,.l bs,.i p,.b false,.b pk,.l [],.l [],.l [],.l bt,.l sv,.l (l.map Cp.e)]=some (.brk 1 [.l bs,.i p',.b false,.b pk,.l [],.l [],.l [],.l bt,.l sv,.l (l'.map Cp.e)])∧l'.length=l.length∧(∀c,c∈l'→c.Sz 1048576)∧p≤p'∧p'≤p+10*d:=by
 intro d
 induction d with
 |zero=>
  intro l p hn hd hd2 hL h0 h1
  refine ⟨l,p,lim_brk ?_,rfl,hL,by omega,by omega⟩
  have:¬((l[n].likes.length:Int)<(B:Int)):=by omega
  simp only[apL,jC,jD,s_l2Spoil.d1,C.I_i,C.L_l,jW,jY,ltL hn,jX,decide_true,jR]
  rw[getD_map' Cp.e hn]
  simp only[Cp.e,jC,jD,C.L_l,jW,this,decide_false,jS]
 |succ d ih=>
  intro l p hn hd hd2 hL h0 h1
  by_cases hlt:l[n].likes.length<B
  ·obtain ⟨k,hk,g1⟩:=pk_ok hb hl h0 (show p≤1125899906842624 by omega) (n:=2) (by omega) (by omega)
   obtain ⟨m,hm,g2⟩:=pk_ok hb hl (p:=p+1) (n:=2) (by omega) (by omega) (by omega) (by omega)
   have hc:=hL _ (List.getElem_mem hn)
   have he:Lk.e ⟨Go.Ev.bs #[],w64 (9+w64 ((k:Int)*(m:Int)))⟩=[.s (Go.Ev.bs #[]),.i (w64 (9+w64 ((k:Int)*(m:Int))))]:=rfl
   have ht:=trS hn _ _ he
   have hn':n<(l.set n {l[n] with likes:=l[n].likes++[⟨Go.Ev.bs #[],w64 (9+w64 ((k:Int)*(m:Int)))⟩]}).length:=by rw[List.length_set];exact hn
   obtain ⟨l',p',q1,q2,q3,q4,q5⟩:=ih (l.set n {l[n] with likes:=l[n].likes++[⟨Go.Ev.bs #[],w64 (9+w64 ((k:Int)*(m:Int)))⟩]}) (p+1+1) hn' (by rw[List.getElem_set_self];show B≤(l[n].likes++[_]).length+d;rw[List.length_append];simp only[List.length_cons,List.length_nil];omega) (by omega) (fun c hc'=>by
    rcases List.mem_or_eq_of_mem_set hc' with hc'|rfl
    ·exact hL c hc'
    ·refine ⟨hc.1,hc.2.1,hc.2.2.1,hc.2.2.2.1,hc.2.2.2.2.1,hc.2.2.2.2.2.1,?_,fun x hx=>?_⟩
     ·show (l[n].likes++[_]).length≤_
      rw[List.length_append];simp only[List.length_cons,List.length_nil];omega
     ·rcases List.mem_append.1 hx with hx|hx
      ·exact hc.2.2.2.2.2.2.2 x hx
      ·rw[List.mem_singleton.1 hx];show (Go.Ev.bs #[]).size≤_;decide) (by omega) (by omega)
   refine ⟨l',p',?_,by rw[q2,List.length_set],q3,by omega,by omega⟩
   rw[←q1]
   apply lim_again
   have c1:(l[n].likes.length:Int)<(B:Int):=by omega
   have c2:l[n].likes.length+1≤4294967296:=by omega
   have hg7:(((l.map Cp.e).getD n []).getD 7 .nil).L.length=l[n].likes.length:=by rw[getD_map' Cp.e hn];simp[Cp.e]
   simp only[apL,jC,jD,s_l2Spoil.d1,C.I_i,C.L_l,jW,jY,ltL hn,jX,decide_true,jR,hg7,c1,g1,g2,call3,jI,rows,List.length_cons,List.length_nil,Nat.zero_add,c2,List.length_set,ht,noHole_all]
  ·refine ⟨l,p,lim_brk ?_,rfl,hL,by omega,by omega⟩
   have:¬((l[n].likes.length:Int)<(B:Int)):=by omega
   simp only[apL,jC,jD,s_l2Spoil.d1,C.I_i,C.L_l,jW,jY,ltL hn,jX,decide_true,jR]
   rw[getD_map' Cp.e hn]
   simp only[Cp.e,jC,jD,C.L_l,jW,this,decide_false,jS]
omit hb hl in
theorem sp_d3 (pk:Bool) (bts:List Bt) (sv:List (List C)) {k:Nat} (hk:k<bts.length) (hz:bts[k].name.size≤1000) (p:Int) (B:Nat) (hB:B≤20):∀(d:Nat) (L:List Cp),L.length+d=B→(∀c,c∈L→c.Sz 1048576)→
  ∃L':List Cp,lim (ap13 s_l2Spoil.d3) [.i k,.i B,.i L.length,.l bs,.i p,.b false,.b pk,.l [],.l [],.l [],.l (bts.map Bt.e),.l sv,.l (L.map Cp.e)]=some (.brk 3 [.l bs,.i p,.b false,.b pk,.l [],.l [],.l [],.l (bts.map Bt.e),.l sv,.l (L'.map Cp.e)])∧L'.length≤20∧(∀c,c∈L'→c.Sz 1048576):=by
 intro d
 induction d with
 |zero=>
  intro L hn hL
  refine ⟨L,lim_brk ?_,by omega,hL⟩
  have:¬((L.length:Int)<(B:Int)):=by omega
  simp only[apL,jC,jD,s_l2Spoil.d3,C.I_i,this,decide_false,jS,C.L_l]
 |succ d ih=>
  intro L hn hL
  have mb:∀x:C,(mkBy (rows [[x]])).size=1:=fun _=>rfl
  have b1:(Go.Ev.bs #[99]).size=1:=rfl
  have c0:(L.length:Int)<(B:Int):=by omega
  have c1:1+1≤4294967296:=by omega
  have c2:L.length+1≤4294967296:=by omega
  have w:w64 ((L.length:Int)+1)=(((L.length+1:Nat)):Int):=by rw[w64_of (by omega) (by omega)];rfl
  let c:Cp:=⟨Go.Ev.bs #[99]++mkBy (rows [[.i (IntKind.wrap .u8 (w64 (97+(L.length:Int))))]]),Go.Ev.bs #[119,101,98],0,0,0,0,Go.Ev.bs #[],[],0,Go.Ev.bs #[],Go.Ev.bs #[],bts[k].name⟩
  have hc:c.Sz 1048576:=⟨by show (Go.Ev.bs #[99]++mkBy (rows [[_]])).size≤_;rw[ByteArray.size_append,b1,mb];decide,by show (Go.Ev.bs #[119,101,98]).size≤_;decide,by show (Go.Ev.bs #[]).size≤_;decide,by show (Go.Ev.bs #[]).size≤_;decide,by show (Go.Ev.bs #[]).size≤_;decide,by show bts[k].name.size≤_;omega,by show 0≤_;decide,fun x hx=>by simp[c] at hx⟩
  obtain ⟨L',q1,q2,q3⟩:=ih (L++[c]) (by simp;omega) (fun x hx=>by
   rcases List.mem_append.1 hx with hx|hx
   ·exact hL x hx
   ·rw[List.mem_singleton.1 hx];exact hc)
  refine ⟨L',?_,q2,q3⟩
  rw[←q1]
  apply lim_again
  simp only[apL,jC,jD,s_l2Spoil.d3,C.I_i,c0,decide_true,jR,C.S_s,b1,mb,c1,C.L_l,jW,w,ltL hk,jX,jY,List.length_append,List.map_append]
  rw[getD_map' Bt.e hk]
  simp only[rows,List.length_cons,List.length_nil,Nat.zero_add,c2,decide_true,jR,Bt.e,jC,nils]
  rfl
theorem spoil_ok {f:Fl} (hz:f.Sz 1000) (hs:f.svs.length=4) (hb1:1≤f.bts.length) {p:Int} (h0:0≤p) (h1:p≤1125899906842624-10000):
  ∃(g:Fl) (p':Int),s_l2Spoil (f.e++[.l bs,.i p])=some (spR bs g p')∧g.Sz 1048576∧p≤p'∧p'≤p+1000:=by
 have hF:=s_l2Fleet_eq hz.up
 have hbl:=hz.1.1
 have hcl:=hz.2.2.1
 obtain ⟨k,hk,g1⟩:=pk_ok hb hl h0 (show p≤1125899906842624 by omega) (n:=(f.bts.length:Int)) (by omega) (by omega)
 have hk':k<f.bts.length:=by omega
 have hbk:=(hz.1.2 _ (List.getElem_mem hk')).up
 have hbk0:=hz.1.2 _ (List.getElem_mem hk')
 have nb:((f.bts.length:Int)==0)=false:=by rw[beq_eq_false_iff_ne];omega
 simp only[Fl.e] at hF
 by_cases hc0:f.cps.length=0
 ·have g2:=pk_0 (bs:=bs) (p:=p+1) (n:=(f.cps.length:Int)) (by omega) (by omega) (by omega)
  have nc:((f.cps.length:Int)==0)=true:=by rw[hc0];rfl
  refine ⟨⟨false,[],[⟨Go.Ev.bs #[],0⟩],[]⟩,p+1+1,?_,⟨⟨by show 0≤_;decide,fun b hb=>by simp at hb⟩,⟨by show 1≤_;decide,fun s hs=>by rw[List.mem_singleton.1 hs];show (Go.Ev.bs #[]).size≤_;decide⟩,by show 0≤_;decide,fun b hb=>by simp at hb⟩,by omega,by omega⟩
  simp only[s_l2Spoil,s_l2Spoil.d5,Fl.e,jA,jB,apL,jC,jD,hF,call4,jI,C.L_l,jW,g1,g2,call3,nb,nc,ja,jR,jV]
  rfl
 obtain ⟨n,hn,g2⟩:=pk_ok hb hl (p:=p+1) (n:=(f.cps.length:Int)) (by omega) (by omega) (by omega) (by omega)
 have hn':n<f.cps.length:=by omega
 have hcn:=(hz.2.2.2 _ (List.getElem_mem hn')).up
 have nc:((f.cps.length:Int)==0)=false:=by rw[beq_eq_false_iff_ne];omega
 obtain ⟨q,hq,g3⟩:=pk_ok hb hl (p:=p+1+1) (n:=16) (by omega) (by omega) (by omega) (by omega)
 simp only[s_l2Spoil,s_l2Spoil.d5,Fl.e,jA,jB,apL,jC,jD,hF,call4,jI,C.L_l,C.I_i,jW,g1,g2,call3,nb,nc,ja,jR,jS]
 refine sp_out ?_
 rw[g3]
 simp only[jI,jC,jD,C.I_i]
 have hqq:q=0∨q=1∨q=2∨q=3∨q=4∨q=5∨q=6∨q=7∨q=8∨q=9∨q=10∨q=11∨q=12∨q=13∨q=14∨q=15:=by omega
 rcases hqq with rfl|rfl|rfl|rfl|rfl|rfl|rfl|rfl|rfl|rfl|rfl|rfl|rfl|rfl|rfl|rfl
 ·simp only[show ((((0:Nat):Int))==0)=true from rfl,jR,jS]
  obtain ⟨t,ht,g4⟩:=pk_ok hb hl (p:=p+1+1+1) (n:=2) (by omega) (by omega) (by omega) (by omega)
  have w20:w64 (20+(t:Int))=((20+t:Nat):Int):=by rw[w64_of (by omega) (by omega)];omega
  obtain ⟨w,gm,hw⟩:=many_ok (Go.Ev.bs #[110]) (20+t) (by omega) rfl
  obtain ⟨x,hx,g5⟩:=pk_ok hb hl (p:=p+1+1+1+1) (n:=4) (by omega) (by omega) (by omega) (by omega)
  obtain ⟨v,v1,v2⟩:=tabS [Go.Ev.bs #[],Go.Ev.bs #[65],Go.Ev.bs #[122,122],w] (by intro s hs;simp only[List.mem_cons,List.not_mem_nil,or_false] at hs;rcases hs with rfl|rfl|rfl|rfl<;>first|assumption|decide) (x:=x) (by simp only[List.length_cons,List.length_nil];omega)
  simp only[List.map_cons,List.map_nil,sE] at v1
  have l1:((x:Nat):Int)<((4:Nat):Int):=by omega
  have st:(f.bts.map Bt.e).set k (setCs ((f.bts.map Bt.e).getD k []) 0 [.s v])=(f.bts.set k {f.bts[k] with name:=v}).map Bt.e:=setE hk' rfl
  simp only[g4,g5,gm,w20,call3,call1,jI,jC,jD,C.I_i,jX,decide_true,jR,rows,List.length_cons,List.length_nil,Nat.zero_add,Nat.reduceAdd,jY,nils,l1,v1,ltL hk',st]
  exact ⟨{f with bts:=f.bts.set k {f.bts[k] with name:=v}},p+1+1+1+1+1,rfl,spBth hz (b:= {f.bts[k] with name:=v}) ⟨Nat.le_trans v2 (by decide),hbk.2⟩ k,by omega,by omega⟩
 ·simp only[show ((((1:Nat):Int))==0)=false from rfl,show ((((1:Nat):Int))==1)=true from rfl,jR,jS]
  obtain ⟨x,hx,g4⟩:=pk_ok hb hl (p:=p+1+1+1) (n:=2) (by omega) (by omega) (by omega) (by omega)
  obtain ⟨v,v1,v2⟩:=tabS [Go.Ev.bs #[],Go.Ev.bs #[120,32,121]] (by intro s hs;simp only[List.mem_cons,List.not_mem_nil,or_false] at hs;rcases hs with rfl|rfl<;>first|assumption|decide) (x:=x) (by simp only[List.length_cons,List.length_nil];omega)
  simp only[List.map_cons,List.map_nil,sE] at v1
  have l1:((x:Nat):Int)<((2:Nat):Int):=by omega
  have st:(f.bts.map Bt.e).set k (setCs ((f.bts.map Bt.e).getD k []) 1 [.s v])=(f.bts.set k {f.bts[k] with zone:=v}).map Bt.e:=setE hk' rfl
  simp only[g4,call3,call1,jI,jC,jD,C.I_i,jX,decide_true,jR,rows,List.length_cons,List.length_nil,Nat.zero_add,Nat.reduceAdd,jY,nils,l1,v1,ltL hk',st]
  exact ⟨{f with bts:=f.bts.set k {f.bts[k] with zone:=v}},p+1+1+1+1,rfl,spBth hz (b:= {f.bts[k] with zone:=v}) ⟨hbk.1,Nat.le_trans v2 (by decide),hbk.2.2⟩ k,by omega,by omega⟩
 ·simp only[show ((((2:Nat):Int))==0)=false from rfl,show ((((2:Nat):Int))==1)=false from rfl,show ((((2:Nat):Int))==2)=true from rfl,jR,jS]
  obtain ⟨x,hx,g4⟩:=pk_ok hb hl (p:=p+1+1+1) (n:=6) (by omega) (by omega) (by omega) (by omega)
  obtain ⟨v,v1,v2,v3⟩:=tabM [[Go.Ev.bs #[98],Go.Ev.bs #[97]],[Go.Ev.bs #[97],Go.Ev.bs #[97,61,98]],[Go.Ev.bs #[97,61,98],Go.Ev.bs #[97,61,99]],[Go.Ev.bs #[65]],[Go.Ev.bs #[97],Go.Ev.bs #[97,45,120],Go.Ev.bs #[97,61,98]],[Go.Ev.bs #[49],Go.Ev.bs #[50],Go.Ev.bs #[51],Go.Ev.bs #[52],Go.Ev.bs #[53],Go.Ev.bs #[54],Go.Ev.bs #[55],Go.Ev.bs #[56],Go.Ev.bs #[57],Go.Ev.bs #[97],Go.Ev.bs #[98]]] (by decide) (x:=x) (by simp only[List.length_cons,List.length_nil];omega)
  simp only[List.map_cons,List.map_nil,sE] at v1
  have l1:((x:Nat):Int)<((6:Nat):Int):=by omega
  have st:(f.bts.map Bt.e).set k (setCs ((f.bts.map Bt.e).getD k []) 2 [.l (v.map sE)])=(f.bts.set k {f.bts[k] with marks:=v}).map Bt.e:=setE hk' rfl
  simp only[g4,call3,call1,jI,jC,jD,C.I_i,jX,decide_true,jR,rows,List.length_cons,List.length_nil,Nat.zero_add,Nat.reduceAdd,jY,nils,l1,v1,ltL hk',st]
  exact ⟨{f with bts:=f.bts.set k {f.bts[k] with marks:=v}},p+1+1+1+1,rfl,spBth hz (b:= {f.bts[k] with marks:=v}) ⟨hbk.1,hbk.2.1,Nat.le_trans v2 (by decide),fun m hm=>Nat.le_trans (v3 m hm) (by decide)⟩ k,by omega,by omega⟩
 ·simp only[show ((((3:Nat):Int))==0)=false from rfl,show ((((3:Nat):Int))==1)=false from rfl,show ((((3:Nat):Int))==2)=false from rfl,show ((((3:Nat):Int))==3)=true from rfl,jR,jS]
  obtain ⟨x,hx,g4⟩:=pk_ok hb hl (p:=p+1+1+1) (n:=4) (by omega) (by omega) (by omega) (by omega)
  obtain ⟨v,v1⟩:=tabI [-1,0,1000,1001] (x:=x) (by simp only[List.length_cons,List.length_nil];omega)
  simp only[List.map_cons,List.map_nil] at v1
  have l1:((x:Nat):Int)<((4:Nat):Int):=by omega
  have st:(f.bts.map Bt.e).set k (setCs ((f.bts.map Bt.e).getD k []) 3 [.i v])=(f.bts.set k {f.bts[k] with room:=v}).map Bt.e:=setE hk' rfl
  simp only[g4,call3,call1,jI,jC,jD,C.I_i,jX,decide_true,jR,rows,List.length_cons,List.length_nil,Nat.zero_add,Nat.reduceAdd,jY,nils,l1,v1,ltL hk',st]
  exact ⟨{f with bts:=f.bts.set k {f.bts[k] with room:=v}},p+1+1+1+1,rfl,spBth hz (b:= {f.bts[k] with room:=v}) hbk k,by omega,by omega⟩
 ·simp only[show ((((4:Nat):Int))==0)=false from rfl,show ((((4:Nat):Int))==1)=false from rfl,show ((((4:Nat):Int))==2)=false from rfl,show ((((4:Nat):Int))==3)=false from rfl,show ((((4:Nat):Int))==4)=true from rfl,jR,jS]
  have c1:f.bts.length+1≤4294967296:=by omega
  have hr:[((f.bts.map Bt.e).getD k []).getD 0 .nil,((f.bts.map Bt.e).getD k []).getD 1 .nil,((f.bts.map Bt.e).getD k []).getD 2 .nil,((f.bts.map Bt.e).getD k []).getD 3 .nil,((f.bts.map Bt.e).getD k []).getD 4 .nil,((f.bts.map Bt.e).getD k []).getD 5 .nil]=f.bts[k].e:=by rw[getD_map' Bt.e hk'];rfl
  simp only[call3,call1,jI,jC,jD,C.I_i,jX,decide_true,jR,rows,List.length_cons,List.length_nil,Nat.zero_add,Nat.reduceAdd,jY,nils,ltL hk',c1,hr]
  refine ⟨{f with bts:=f.bts++[f.bts[k]]},p+1+1+1,by simp only[spN,List.map_append,List.map_cons,List.map_nil],⟨⟨by show (f.bts++[f.bts[k]]).length≤_;rw[List.length_append];simp only[List.length_cons,List.length_nil];omega,fun x hx=>?_⟩,hz.up.2⟩,by omega,by omega⟩
  rcases List.mem_append.1 hx with hx|hx
  ·exact hz.up.1.2 x hx
  ·rw[List.mem_singleton.1 hx];exact hbk
 ·simp only[show ((((5:Nat):Int))==0)=false from rfl,show ((((5:Nat):Int))==1)=false from rfl,show ((((5:Nat):Int))==2)=false from rfl,show ((((5:Nat):Int))==3)=false from rfl,show ((((5:Nat):Int))==4)=false from rfl,show ((((5:Nat):Int))==5)=true from rfl,jR,jS]
  obtain ⟨a,ha,g4⟩:=pk_ok hb hl (p:=p+1+1+1) (n:=4) (by omega) (by omega) (by omega) (by omega)
  have ha':a<f.svs.length:=by omega
  have hsa:f.svs[a].name.size≤1048576:=hz.up.2.1.2 _ (List.getElem_mem ha')
  obtain ⟨x,hx,g5⟩:=pk_ok hb hl (p:=p+1+1+1+1) (n:=3) (by omega) (by omega) (by omega) (by omega)
  obtain ⟨v,v1⟩:=tabI [-1,60,61] (x:=x) (by simp only[List.length_cons,List.length_nil];omega)
  simp only[List.map_cons,List.map_nil] at v1
  have l1:((x:Nat):Int)<((3:Nat):Int):=by omega
  have st:(f.svs.map Sv.e).set a (setCs ((f.svs.map Sv.e).getD a []) 1 [.i v])=(f.svs.set a {f.svs[a] with spare:=v}).map Sv.e:=setE ha' rfl
  simp only[g4,g5,call3,call1,jI,jC,jD,C.I_i,jX,decide_true,jR,rows,List.length_cons,List.length_nil,Nat.zero_add,Nat.reduceAdd,jY,nils,l1,v1,ltL ha',st]
  exact ⟨{f with svs:=f.svs.set a {f.svs[a] with spare:=v}},p+1+1+1+1+1,rfl,spSvc hz (b:= {f.svs[a] with spare:=v}) hsa a,by omega,by omega⟩
 ·simp only[show ((((6:Nat):Int))==0)=false from rfl,show ((((6:Nat):Int))==1)=false from rfl,show ((((6:Nat):Int))==2)=false from rfl,show ((((6:Nat):Int))==3)=false from rfl,show ((((6:Nat):Int))==4)=false from rfl,show ((((6:Nat):Int))==5)=false from rfl,show ((((6:Nat):Int))==6)=true from rfl,jR,jS]
  obtain ⟨x,hx,g4⟩:=pk_ok hb hl (p:=p+1+1+1) (n:=3) (by omega) (by omega) (by omega) (by omega)
  obtain ⟨v,v1⟩:=tabI [-1,100,101] (x:=x) (by simp only[List.length_cons,List.length_nil];omega)
  simp only[List.map_cons,List.map_nil] at v1
  have l1:((x:Nat):Int)<((3:Nat):Int):=by omega
  have st:(f.cps.map Cp.e).set n (setCs ((f.cps.map Cp.e).getD n []) 2 [.i v])=(f.cps.set n {f.cps[n] with rank:=v}).map Cp.e:=setE hn' rfl
  simp only[g4,call3,call1,jI,jC,jD,C.I_i,jX,decide_true,jR,rows,List.length_cons,List.length_nil,Nat.zero_add,Nat.reduceAdd,jY,nils,l1,v1,ltL hn',st]
  exact ⟨{f with cps:=f.cps.set n {f.cps[n] with rank:=v}},p+1+1+1+1,rfl,spCpy hz (b:= {f.cps[n] with rank:=v}) hcn n,by omega,by omega⟩
 ·simp only[show ((((7:Nat):Int))==0)=false from rfl,show ((((7:Nat):Int))==1)=false from rfl,show ((((7:Nat):Int))==2)=false from rfl,show ((((7:Nat):Int))==3)=false from rfl,show ((((7:Nat):Int))==4)=false from rfl,show ((((7:Nat):Int))==5)=false from rfl,show ((((7:Nat):Int))==6)=false from rfl,show ((((7:Nat):Int))==7)=true from rfl,jR,jS]
  obtain ⟨x,hx,g4⟩:=pk_ok hb hl (p:=p+1+1+1) (n:=3) (by omega) (by omega) (by omega) (by omega)
  obtain ⟨v,v1⟩:=tabI [-1,1000000,1000001] (x:=x) (by simp only[List.length_cons,List.length_nil];omega)
  simp only[List.map_cons,List.map_nil] at v1
  have l1:((x:Nat):Int)<((3:Nat):Int):=by omega
  have st:(f.cps.map Cp.e).set n (setCs ((f.cps.map Cp.e).getD n []) 3 [.i v])=(f.cps.set n {f.cps[n] with born:=v}).map Cp.e:=setE hn' rfl
  simp only[g4,call3,call1,jI,jC,jD,C.I_i,jX,decide_true,jR,rows,List.length_cons,List.length_nil,Nat.zero_add,Nat.reduceAdd,jY,nils,l1,v1,ltL hn',st]
  exact ⟨{f with cps:=f.cps.set n {f.cps[n] with born:=v}},p+1+1+1+1,rfl,spCpy hz (b:= {f.cps[n] with born:=v}) hcn n,by omega,by omega⟩
 ·simp only[show ((((8:Nat):Int))==0)=false from rfl,show ((((8:Nat):Int))==1)=false from rfl,show ((((8:Nat):Int))==2)=false from rfl,show ((((8:Nat):Int))==3)=false from rfl,show ((((8:Nat):Int))==4)=false from rfl,show ((((8:Nat):Int))==5)=false from rfl,show ((((8:Nat):Int))==6)=false from rfl,show ((((8:Nat):Int))==7)=false from rfl,show ((((8:Nat):Int))==8)=true from rfl,jR,jS]
  obtain ⟨x,hx,g4⟩:=pk_ok hb hl (p:=p+1+1+1) (n:=3) (by omega) (by omega) (by omega) (by omega)
  obtain ⟨v,v1⟩:=tabI [-1,1000,1001] (x:=x) (by simp only[List.length_cons,List.length_nil];omega)
  simp only[List.map_cons,List.map_nil] at v1
  have l1:((x:Nat):Int)<((3:Nat):Int):=by omega
  have st:(f.cps.map Cp.e).set n (setCs ((f.cps.map Cp.e).getD n []) 4 [.i v])=(f.cps.set n {f.cps[n] with room:=v}).map Cp.e:=setE hn' rfl
  simp only[g4,call3,call1,jI,jC,jD,C.I_i,jX,decide_true,jR,rows,List.length_cons,List.length_nil,Nat.zero_add,Nat.reduceAdd,jY,nils,l1,v1,ltL hn',st]
  exact ⟨{f with cps:=f.cps.set n {f.cps[n] with room:=v}},p+1+1+1+1,rfl,spCpy hz (b:= {f.cps[n] with room:=v}) hcn n,by omega,by omega⟩
 ·simp only[show ((((9:Nat):Int))==0)=false from rfl,show ((((9:Nat):Int))==1)=false from rfl,show ((((9:Nat):Int))==2)=false from rfl,show ((((9:Nat):Int))==3)=false from rfl,show ((((9:Nat):Int))==4)=false from rfl,show ((((9:Nat):Int))==5)=false from rfl,show ((((9:Nat):Int))==6)=false from rfl,show ((((9:Nat):Int))==7)=false from rfl,show ((((9:Nat):Int))==8)=false from rfl,show ((((9:Nat):Int))==9)=true from rfl,jR,jS]
  obtain ⟨w,gm,hw⟩:=many_ok (Go.Ev.bs #[97]) 201 (by omega) rfl
  have gm':s_l1Many [.s (Go.Ev.bs #[97]),.i 201]=some [.s w]:=gm
  obtain ⟨x,hx,g4⟩:=pk_ok hb hl (p:=p+1+1+1) (n:=4) (by omega) (by omega) (by omega) (by omega)
  obtain ⟨v,v1,v2⟩:=tabS [Go.Ev.bs #[97,32,98],Go.Ev.bs #[33],w,Go.Ev.bs #[120]] (by intro s hs;simp only[List.mem_cons,List.not_mem_nil,or_false] at hs;rcases hs with rfl|rfl|rfl|rfl<;>first|assumption|decide) (x:=x) (by simp only[List.length_cons,List.length_nil];omega)
  simp only[List.map_cons,List.map_nil,sE] at v1
  have l1:((x:Nat):Int)<((4:Nat):Int):=by omega
  have st:(f.cps.map Cp.e).set n (setCs ((f.cps.map Cp.e).getD n []) 6 [.s v])=(f.cps.set n {f.cps[n] with sel:=v}).map Cp.e:=setE hn' rfl
  simp only[g4,gm',call3,call1,jI,jC,jD,C.I_i,jX,decide_true,jR,rows,List.length_cons,List.length_nil,Nat.zero_add,Nat.reduceAdd,jY,nils,l1,v1,ltL hn',st]
  exact ⟨{f with cps:=f.cps.set n {f.cps[n] with sel:=v}},p+1+1+1+1,rfl,spCpy hz (b:= {f.cps[n] with sel:=v}) ⟨hcn.1,hcn.2.1,Nat.le_trans v2 (by decide),hcn.2.2.2.1,hcn.2.2.2.2.1,hcn.2.2.2.2.2.1,hcn.2.2.2.2.2.2⟩ n,by omega,by omega⟩
 ·simp only[show ((((10:Nat):Int))==0)=false from rfl,show ((((10:Nat):Int))==1)=false from rfl,show ((((10:Nat):Int))==2)=false from rfl,show ((((10:Nat):Int))==3)=false from rfl,show ((((10:Nat):Int))==4)=false from rfl,show ((((10:Nat):Int))==5)=false from rfl,show ((((10:Nat):Int))==6)=false from rfl,show ((((10:Nat):Int))==7)=false from rfl,show ((((10:Nat):Int))==8)=false from rfl,show ((((10:Nat):Int))==9)=false from rfl,show ((((10:Nat):Int))==10)=true from rfl,jR,jS]
  obtain ⟨x,hx,g4⟩:=pk_ok hb hl (p:=p+1+1+1) (n:=2) (by omega) (by omega) (by omega) (by omega)
  have w5:w64 (5+(x:Int))=((5+x:Nat):Int):=by rw[w64_of (by omega) (by omega)];omega
  obtain ⟨l',p',q1,q2,q3,q4,q5⟩:=sp_d1 hb hl f.pack (f.bts.map Bt.e) (f.svs.map Sv.e) n (5+x) (by omega) 20 f.cps (p+1+1+1+1) hn' (by omega) (by omega) hz.up.2.2.2 (by omega) (by omega)
  simp only[g4,call3,call1,jI,jC,jD,C.I_i,jX,decide_true,jR,rows,List.length_cons,List.length_nil,Nat.zero_add,Nat.reduceAdd,jY,nils,w5,q1,bindBlk_self,s_l2Spoil.d2,apL,C.L_l]
  exact ⟨{f with cps:=l'},p',rfl,⟨hz.up.1,hz.up.2.1,by show l'.length≤_;omega,q3⟩,by omega,by omega⟩
 ·simp only[show ((((11:Nat):Int))==0)=false from rfl,show ((((11:Nat):Int))==1)=false from rfl,show ((((11:Nat):Int))==2)=false from rfl,show ((((11:Nat):Int))==3)=false from rfl,show ((((11:Nat):Int))==4)=false from rfl,show ((((11:Nat):Int))==5)=false from rfl,show ((((11:Nat):Int))==6)=false from rfl,show ((((11:Nat):Int))==7)=false from rfl,show ((((11:Nat):Int))==8)=false from rfl,show ((((11:Nat):Int))==9)=false from rfl,show ((((11:Nat):Int))==10)=false from rfl,show ((((11:Nat):Int))==11)=true from rfl,jR,jS]
  obtain ⟨x,hx,g4⟩:=pk_ok hb hl (p:=p+1+1+1) (n:=2) (by omega) (by omega) (by omega) (by omega)
  obtain ⟨v,v1⟩:=tabI [-1,3] (x:=x) (by simp only[List.length_cons,List.length_nil];omega)
  simp only[List.map_cons,List.map_nil] at v1
  have l1:((x:Nat):Int)<((2:Nat):Int):=by omega
  have st:(f.cps.map Cp.e).set n (setCs ((f.cps.map Cp.e).getD n []) 8 [.i v])=(f.cps.set n {f.cps[n] with apart:=v}).map Cp.e:=setE hn' rfl
  simp only[g4,call3,call1,jI,jC,jD,C.I_i,jX,decide_true,jR,rows,List.length_cons,List.length_nil,Nat.zero_add,Nat.reduceAdd,jY,nils,l1,v1,ltL hn',st]
  exact ⟨{f with cps:=f.cps.set n {f.cps[n] with apart:=v}},p+1+1+1+1,rfl,spCpy hz (b:= {f.cps[n] with apart:=v}) hcn n,by omega,by omega⟩
 ·simp only[show ((((12:Nat):Int))==0)=false from rfl,show ((((12:Nat):Int))==1)=false from rfl,show ((((12:Nat):Int))==2)=false from rfl,show ((((12:Nat):Int))==3)=false from rfl,show ((((12:Nat):Int))==4)=false from rfl,show ((((12:Nat):Int))==5)=false from rfl,show ((((12:Nat):Int))==6)=false from rfl,show ((((12:Nat):Int))==7)=false from rfl,show ((((12:Nat):Int))==8)=false from rfl,show ((((12:Nat):Int))==9)=false from rfl,show ((((12:Nat):Int))==10)=false from rfl,show ((((12:Nat):Int))==11)=false from rfl,show ((((12:Nat):Int))==12)=true from rfl,jR,jS]
  obtain ⟨x,hx,g4⟩:=pk_ok hb hl (p:=p+1+1+1) (n:=3) (by omega) (by omega) (by omega) (by omega)
  obtain ⟨v,v1,v2⟩:=tabS [Go.Ev.bs #[103,111,110,101],Go.Ev.bs #[98,48],Go.Ev.bs #[98,49]] (by intro s hs;simp only[List.mem_cons,List.not_mem_nil,or_false] at hs;rcases hs with rfl|rfl|rfl<;>first|assumption|decide) (x:=x) (by simp only[List.length_cons,List.length_nil];omega)
  simp only[List.map_cons,List.map_nil,sE] at v1
  have l1:((x:Nat):Int)<((3:Nat):Int):=by omega
  have st:(f.cps.map Cp.e).set n (setCs ((f.cps.map Cp.e).getD n []) 11 [.s v])=(f.cps.set n {f.cps[n] with at_:=v}).map Cp.e:=setE hn' rfl
  simp only[g4,call3,call1,jI,jC,jD,C.I_i,jX,decide_true,jR,rows,List.length_cons,List.length_nil,Nat.zero_add,Nat.reduceAdd,jY,nils,l1,v1,ltL hn',st]
  exact ⟨{f with cps:=f.cps.set n {f.cps[n] with at_:=v}},p+1+1+1+1,rfl,spCpy hz (b:= {f.cps[n] with at_:=v}) ⟨hcn.1,hcn.2.1,hcn.2.2.1,hcn.2.2.2.1,hcn.2.2.2.2.1,Nat.le_trans v2 (by decide),hcn.2.2.2.2.2.2⟩ n,by omega,by omega⟩
 ·simp only[show ((((13:Nat):Int))==0)=false from rfl,show ((((13:Nat):Int))==1)=false from rfl,show ((((13:Nat):Int))==2)=false from rfl,show ((((13:Nat):Int))==3)=false from rfl,show ((((13:Nat):Int))==4)=false from rfl,show ((((13:Nat):Int))==5)=false from rfl,show ((((13:Nat):Int))==6)=false from rfl,show ((((13:Nat):Int))==7)=false from rfl,show ((((13:Nat):Int))==8)=false from rfl,show ((((13:Nat):Int))==9)=false from rfl,show ((((13:Nat):Int))==10)=false from rfl,show ((((13:Nat):Int))==11)=false from rfl,show ((((13:Nat):Int))==12)=false from rfl,show ((((13:Nat):Int))==13)=true from rfl,jR,jS]
  obtain ⟨x,hx,g4⟩:=pk_ok hb hl (p:=p+1+1+1) (n:=2) (by omega) (by omega) (by omega) (by omega)
  obtain ⟨v,v1,v2⟩:=tabS [Go.Ev.bs #[110,111,110,101],Go.Ev.bs #[]] (by intro s hs;simp only[List.mem_cons,List.not_mem_nil,or_false] at hs;rcases hs with rfl|rfl<;>first|assumption|decide) (x:=x) (by simp only[List.length_cons,List.length_nil];omega)
  simp only[List.map_cons,List.map_nil,sE] at v1
  have l1:((x:Nat):Int)<((2:Nat):Int):=by omega
  have st:(f.cps.map Cp.e).set n (setCs ((f.cps.map Cp.e).getD n []) 1 [.s v])=(f.cps.set n {f.cps[n] with svc:=v}).map Cp.e:=setE hn' rfl
  simp only[g4,call3,call1,jI,jC,jD,C.I_i,jX,decide_true,jR,rows,List.length_cons,List.length_nil,Nat.zero_add,Nat.reduceAdd,jY,nils,l1,v1,ltL hn',st]
  exact ⟨{f with cps:=f.cps.set n {f.cps[n] with svc:=v}},p+1+1+1+1,rfl,spCpy hz (b:= {f.cps[n] with svc:=v}) ⟨hcn.1,Nat.le_trans v2 (by decide),hcn.2.2.1,hcn.2.2.2.1,hcn.2.2.2.2.1,hcn.2.2.2.2.2.1,hcn.2.2.2.2.2.2⟩ n,by omega,by omega⟩
 ·simp only[show ((((14:Nat):Int))==0)=false from rfl,show ((((14:Nat):Int))==1)=false from rfl,show ((((14:Nat):Int))==2)=false from rfl,show ((((14:Nat):Int))==3)=false from rfl,show ((((14:Nat):Int))==4)=false from rfl,show ((((14:Nat):Int))==5)=false from rfl,show ((((14:Nat):Int))==6)=false from rfl,show ((((14:Nat):Int))==7)=false from rfl,show ((((14:Nat):Int))==8)=false from rfl,show ((((14:Nat):Int))==9)=false from rfl,show ((((14:Nat):Int))==10)=false from rfl,show ((((14:Nat):Int))==11)=false from rfl,show ((((14:Nat):Int))==12)=false from rfl,show ((((14:Nat):Int))==13)=false from rfl,show ((((14:Nat):Int))==14)=true from rfl,jR,jS]
  obtain ⟨x,hx,g4⟩:=pk_ok hb hl (p:=p+1+1+1) (n:=2) (by omega) (by omega) (by omega) (by omega)
  have w5:w64 (10+(x:Int))=((10+x:Nat):Int):=by rw[w64_of (by omega) (by omega)];omega
  obtain ⟨l',q1,q2,q3⟩:=sp_d3 (bs:=bs) f.pack f.bts (f.svs.map Sv.e) hk' hbk0.1 (p+1+1+1+1) (10+x) (by omega) (10+x) [] (by simp) (fun c hc=>by simp at hc)
  simp only[List.map_nil,List.length_nil,Int.natCast_zero] at q1
  simp only[g4,call3,call1,jI,jC,jD,C.I_i,jX,decide_true,jR,rows,List.length_cons,List.length_nil,Nat.zero_add,Nat.reduceAdd,jY,nils,w5,q1,bindBlk_self,s_l2Spoil.d2,apL,C.L_l]
  exact ⟨{f with cps:=l'},_,rfl,⟨hz.up.1,hz.up.2.1,by show l'.length≤_;omega,q3⟩,by omega,by omega⟩
 ·simp only[show ((((15:Nat):Int))==0)=false from rfl,show ((((15:Nat):Int))==1)=false from rfl,show ((((15:Nat):Int))==2)=false from rfl,show ((((15:Nat):Int))==3)=false from rfl,show ((((15:Nat):Int))==4)=false from rfl,show ((((15:Nat):Int))==5)=false from rfl,show ((((15:Nat):Int))==6)=false from rfl,show ((((15:Nat):Int))==7)=false from rfl,show ((((15:Nat):Int))==8)=false from rfl,show ((((15:Nat):Int))==9)=false from rfl,show ((((15:Nat):Int))==10)=false from rfl,show ((((15:Nat):Int))==11)=false from rfl,show ((((15:Nat):Int))==12)=false from rfl,show ((((15:Nat):Int))==13)=false from rfl,show ((((15:Nat):Int))==14)=false from rfl,jR,jS]
  obtain ⟨x,hx,g4⟩:=pk_ok hb hl (p:=p+1+1+1) (n:=2) (by omega) (by omega) (by omega) (by omega)
  obtain ⟨v,v1,v2⟩:=tabS [Go.Ev.bs #[65],Go.Ev.bs #[119,101,98]] (by intro s hs;simp only[List.mem_cons,List.not_mem_nil,or_false] at hs;rcases hs with rfl|rfl<;>first|assumption|decide) (x:=x) (by simp only[List.length_cons,List.length_nil];omega)
  simp only[List.map_cons,List.map_nil,sE] at v1
  have l1:((x:Nat):Int)<((2:Nat):Int):=by omega
  obtain ⟨y,hy,g5⟩:=pk_ok hb hl (p:=p+1+1+1+1) (n:=2) (by omega) (by omega) (by omega) (by omega)
  obtain ⟨u,u1,u2⟩:=tabS [Go.Ev.bs #[120,32,121],Go.Ev.bs #[98,48]] (by intro s hs;simp only[List.mem_cons,List.not_mem_nil,or_false] at hs;rcases hs with rfl|rfl<;>first|assumption|decide) (x:=y) (by simp only[List.length_cons,List.length_nil];omega)
  simp only[List.map_cons,List.map_nil,sE] at u1
  have l2:((y:Nat):Int)<((2:Nat):Int):=by omega
  have st:(f.cps.map Cp.e).set n (setCs ((f.cps.map Cp.e).getD n []) 9 [.s v])=(f.cps.set n {f.cps[n] with near:=v}).map Cp.e:=setE hn' rfl
  have hn2:n<(f.cps.set n {f.cps[n] with near:=v}).length:=by rw[List.length_set];exact hn'
  have st2:((f.cps.set n {f.cps[n] with near:=v}).map Cp.e).set n (setCs (((f.cps.set n {f.cps[n] with near:=v}).map Cp.e).getD n []) 10 [.s u])=(f.cps.set n {f.cps[n] with near:=v,fixed:=u}).map Cp.e:=by
   rw[setE (b:= {f.cps[n] with near:=v,fixed:=u}) hn2 (by rw[List.getElem_set_self];rfl),List.set_set]
  simp only[g4,g5,call3,call1,jI,jC,jD,C.I_i,jX,decide_true,jR,rows,List.length_cons,List.length_nil,Nat.zero_add,Nat.reduceAdd,jY,nils,l1,l2,v1,u1,ltL hn',st,jW,List.length_set,st2]
  exact ⟨{f with cps:=f.cps.set n {f.cps[n] with near:=v,fixed:=u}},p+1+1+1+1+1,rfl,spCpy hz (b:= {f.cps[n] with near:=v,fixed:=u}) ⟨hcn.1,hcn.2.1,hcn.2.2.1,Nat.le_trans v2 (by decide),Nat.le_trans u2 (by decide),hcn.2.2.2.2.2.1,hcn.2.2.2.2.2.2⟩ n,by omega,by omega⟩
end
end Go.Ev
namespace Go.Ev
section
variable {bs:List (List C)} (hb:BY bs) (hl:bs.length≤2000)
include hb hl
theorem l2Any_ok {p:Int} (h0:0≤p) (h1:p≤1125899906842624-100000):
  ∃(f:Fl) (p':Int),s_l2Any [.l bs,.i p]=some (f.e++[.l bs,.i p'])∧f.Sz 1048576∧p≤p'∧p'≤p+50000:=by
 obtain ⟨k,hk,g1⟩:=pk_ok hb hl h0 (show p≤1125899906842624 by omega) (n:=12) (by omega) (by omega)
 simp only[s_l2Any,s_l2Any.d1,apL,jC,jD,g1,call3,jI,C.I_i]
 cases hq:((k:Int)==0) with
 |true=>
  obtain ⟨f,p',q1,q2,q3,q4⟩:=full_ok hb hl (p:=p+1) (by omega) (by omega)
  refine ⟨f,p',?_,q2.up,by omega,by omega⟩
  simp only[jR,q1,call6,jI,jC,jD,C.L_l,jV]
  rfl
 |false=>
  obtain ⟨f,p1,q1,q2,q3,q4,q5⟩:=draw_ok hb hl (p:=p+1) (by omega) (by omega)
  obtain ⟨m,hm,g2⟩:=pk_ok hb hl (p:=p1) (n:=16) (by omega) (by omega) (by omega) (by omega)
  have q1':s_l2Draw [.l bs,.i (p+1)]=some [.b f.pack,.l (f.bts.map Bt.e),.l (f.svs.map Sv.e),.l (f.cps.map Cp.e),.l bs,.i p1]:=q1
  simp only[jS,q1',call6,jI,jC,jD,C.L_l,g2,call3,C.I_i]
  cases hm0:((m:Int)==0) with
  |true=>
   obtain ⟨g,p2,r1,r2,r3,r4⟩:=spoil_ok hb hl q2 q3.1 q3.2 (p:=p1+1) (by omega) (by omega)
   have r1':s_l2Spoil [.b f.pack,.l (f.bts.map Bt.e),.l (f.svs.map Sv.e),.l (f.cps.map Cp.e),.l bs,.i (p1+1)]=some (spR bs g p2):=r1
   refine ⟨g,p2,?_,r2,by omega,by omega⟩
   simp only[jR,r1',spR,call6,jI,jC,jD,C.L_l,jV]
   rfl
  |false=>
   refine ⟨f,p1+1,?_,q2.up,by omega,by omega⟩
   simp only[jS,jV]
   rfl
end
theorem open_ok {A:List (List C)} (hA:BY A):∃bs:List (List C),s_l1Open [.l A]=some [.l bs,.i 0]∧BY bs∧bs.length≤2000:=by
 simp only[s_l1Open,s_l1Open.d1,apL,jC,C.L_l]
 by_cases h:(A.length:Int)>2000
 ·have h2:(2000:Int)≤(A.length:Int):=by omega
  refine ⟨(A.take 2000).drop 0,?_,?_,?_⟩
  ·simp only[h,h2,decide_true,jR,jV]
  ·exact fun r hr=>hA r (List.mem_of_mem_take (List.mem_of_mem_drop hr))
  ·rw[List.drop_zero,List.length_take];omega
 ·refine ⟨A,?_,hA,by omega⟩
  simp only[h,decide_false,jS,jV]
end Go.Ev
set_option maxHeartbeats 1000000
namespace Go.Ev
theorem fitsOf_at {f:Fl} (hv:validF f=true) {cn:Str} {k:Nat} (hk:k<f.cps.length) (he:cIx f cn=(k:Nat)) {i:Nat} (hi:i<f.bts.length):fitsOf f cn f.bts[i].name=fitsN f f.cps[k] f.bts[i] false:=by
 obtain ⟨j,hj,e1,e2⟩:=bIx_name hv (List.getElem_mem hi)
 have n1:¬((k:Int)<0∨(j:Int)<0):=by omega
 simp only[fitsOf,hv,jR,he,e1,jY,List.getElem?_eq_getElem hk,List.getElem?_eq_getElem hj,e2,n1,if_false]
end Go.Ev
namespace Go.Ev
theorem fits_open (f:Fl) (c:Cp) (b:Bt):fitsN f c b false=bif b.shut then 1 else fitsN f c b true:=by
 unfold fitsN
 cases b.shut<;>rfl
theorem sumL_ext {p q:Cp→Bool} {g:Cp→Int} {l m:List Cp} (hl:l.length=m.length) (h:∀i (h1:i<l.length) (h2:i<m.length),(bif p l[i] then g l[i] else 0)=(bif q m[i] then g m[i] else 0)):sumL p g l=sumL q g m:=by
 have h1:=sumL_le (p:=p) (q:=q) (g:=g) hl fun i a b=>Int.le_of_eq (h i a b)
 have h2:=sumL_le (p:=q) (q:=p) (g:=g) hl.symm fun i a b=>Int.le_of_eq (h i b a).symm
 omega
theorem oth_self (c:Cp):oth c c=false:=by unfold oth;rw[(sEq_iff _ _).2 rfl];rfl
section
variable {f:Fl} (h:VF f) {i:Nat} (hi:i<f.cps.length) (b:Bt)
include h hi
theorem setAt_get {nm:Str} {k:Nat} (h1:k<(setAt f i f.cps[i] nm).cps.length) (h2:k<f.cps.length):(setAt f i f.cps[i] nm).cps[k]=if i=k then {f.cps[i] with at_:=nm} else f.cps[k]:=by
 simp only[setAt,List.getElem_set]
theorem name_other {k:Nat} (hk:k<f.cps.length) (hne:i≠k):sEq f.cps[k].name f.cps[i].name=false:=by
 cases q:sEq f.cps[k].name f.cps[i].name with
 |false=>rfl
 |true=>
  exfalso
  have hu:=uniq_of (valid_vf h)
  have hlt:∀a b (ha:a<f.cps.length) (hb:b<f.cps.length),a<b→f.cps[a].name≠f.cps[b].name:=fun a b ha hb hab he=>by
   have:∀n,∀(hb:a+1+n<f.cps.length),sLt f.cps[a].name f.cps[a+1+n].name=true:=fun n=>by
    induction n with
    |zero=>intro hb;exact (h.cp (a+1) hb).2.2.1 (by omega)
    |succ n ih=>
     intro hb
     exact sLt_trans (ih (by omega)) ((h.cp (a+1+(n+1)) hb).2.2.1 (by omega))
   have h1:=this (b-a-1) (by omega)
   have e:a+1+(b-a-1)=b:=by omega
   simp only[e] at h1
   rw[he,sLt_irr] at h1;cases h1
  have he:=(sEq_iff _ _).1 q
  rcases Nat.lt_or_gt_of_ne hne with h1|h1
  ·exact hlt i k hi hk h1 he.symm
  ·exact hlt k i hk hi h1 he
theorem any_set (nm:Str) {p q:Cp→Bool} (h0:p f.cps[i]=false) (h1:q {f.cps[i] with at_:=nm}=false) (ho:∀k (hk:k<f.cps.length),i≠k→p f.cps[k]=q f.cps[k]):(setAt f i f.cps[i] nm).cps.any q=f.cps.any p:=by
 have hl:(setAt f i f.cps[i] nm).cps.length=f.cps.length:=by simp[setAt]
 rw[Bool.eq_iff_iff,List.any_eq_true,List.any_eq_true]
 constructor
 ·rintro ⟨x,hx,hq⟩
  obtain ⟨k,hk,rfl⟩:=List.getElem_of_mem hx
  have hk':k<f.cps.length:=by omega
  rw[setAt_get h hi hk hk'] at hq
  split at hq
  ·rw[h1] at hq;cases hq
  ·rename_i hne
   exact ⟨_,List.getElem_mem hk',by rw[ho k hk' hne];exact hq⟩
 ·rintro ⟨x,hx,hp⟩
  obtain ⟨k,hk,rfl⟩:=List.getElem_of_mem hx
  by_cases hne:i=k
  ·subst hne;rw[h0] at hp;cases hp
  ·have hk':k<(setAt f i f.cps[i] nm).cps.length:=by omega
   refine ⟨_,List.getElem_mem hk',?_⟩
   rw[setAt_get h hi hk' hk,if_neg hne,←ho k hk hne];exact hp
theorem sum_set (nm:Str) (w:Cp→Int):sumL (onP {f.cps[i] with at_:=nm} b) w (setAt f i f.cps[i] nm).cps=sumL (onP f.cps[i] b) w f.cps:=by
 refine sumL_ext (by simp[setAt]) fun k h1 h2=>?_
 rw[setAt_get h hi h1 h2]
 split
 ·rename_i e
  subst e
  have e1:onP {f.cps[i] with at_:=nm} b {f.cps[i] with at_:=nm}=false:=by unfold onP;rw[oth_self];rfl
  have e2:onP f.cps[i] b f.cps[i]=false:=by unfold onP;rw[oth_self];rfl
  rw[e1,e2];rfl
 ·rfl
theorem fitsN_set (nm:Str) (o:Bool):fitsN (setAt f i f.cps[i] nm) {f.cps[i] with at_:=nm} b o=fitsN f f.cps[i] b o:=by
 have hz:∀s,zoneOf (setAt f i f.cps[i] nm) s=zoneOf f s:=fun _=>rfl
 have ho:∀x,oth {f.cps[i] with at_:=nm} x=oth f.cps[i] x:=fun _=>rfl
 have e1:(setAt f i f.cps[i] nm).cps.any (togP (setAt f i f.cps[i] nm) {f.cps[i] with at_:=nm} b)=f.cps.any (togP f f.cps[i] b):=
  any_set h hi nm (by unfold togP;rw[oth_self];rfl) (by unfold togP;rw[oth_self];rfl) fun k hk _=>by unfold togP;rw[hz,ho]
 have e2:farB (setAt f i f.cps[i] nm) {f.cps[i] with at_:=nm} b=farB f f.cps[i] b:=by
  unfold farB
  have a1:(setAt f i f.cps[i] nm).cps.any (nearP (setAt f i f.cps[i] nm) {f.cps[i] with at_:=nm} b)=f.cps.any (nearP f f.cps[i] b):=
   any_set h hi nm (by unfold nearP;rw[oth_self];rfl) (by unfold nearP;rw[oth_self];rfl) fun k hk _=>by unfold nearP;rw[hz,ho]
  have a2:(setAt f i f.cps[i] nm).cps.any (svcP {f.cps[i] with at_:=nm} f.cps[i].near)=f.cps.any (svcP f.cps[i] f.cps[i].near):=
   any_set h hi nm (by unfold svcP;rw[oth_self];rfl) (by unfold svcP;rw[oth_self];rfl) fun k hk _=>by unfold svcP;rw[ho]
  simp only[a1,a2]
 have e3:cntN (onP {f.cps[i] with at_:=nm} b) (setAt f i f.cps[i] nm).cps (setAt f i f.cps[i] nm).cps.length=cntN (onP f.cps[i] b) f.cps f.cps.length:=by
  have:=sum_set h hi b nm (fun _=>1)
  rw[←cntN_all,←cntN_all] at this
  omega
 have e4:∀w:Cp→Int,sumN (onP {f.cps[i] with at_:=nm} b) w (setAt f i f.cps[i] nm).cps (setAt f i f.cps[i] nm).cps.length=sumN (onP f.cps[i] b) w f.cps f.cps.length:=fun w=>by
  rw[sumN_all,sumN_all];exact sum_set h hi b nm w
 unfold fitsN
 simp only[e1,e2,e3,e4]
theorem unset_valid:VF (setAt f i f.cps[i] (mkS [])):=by
 have e:setAt f i f.cps[i] (mkS [])=goF f [f.cps[i].name]:=by
  unfold goF
  unfold setAt
  congr 1
  refine List.ext_getElem (by simp) fun k h1 h2=>?_
  have hk:k<f.cps.length:=by simpa using h2
  rw[List.getElem_map,List.getElem_set]
  split
  ·rename_i e;subst e
   simp only[goC,inS,List.any_cons,List.any_nil,(sEq_iff _ _).2 rfl,Bool.true_or,jR]
  ·rename_i hne
   have q:=name_other h hi hk hne
   have q':sEq f.cps[i].name f.cps[k].name=false:=by rw[sEq_comm];exact q
   simp only[goC,inS,List.any_cons,List.any_nil,q,q',Bool.or_false,jS]
 rw[e]
 exact goF_valid h _
theorem move_valid (hb:b∈f.bts) (hf:fitsN f f.cps[i] b false=0):VF (setAt f i f.cps[i] b.name):=by
 have h0:=unset_valid h hi
 have hi0:i<(setAt f i f.cps[i] (mkS [])).cps.length:=by simpa [setAt] using hi
 have e0:(setAt f i f.cps[i] (mkS [])).cps[i]= {f.cps[i] with at_:=mkS []}:=by rw[setAt_get h hi hi0 hi,if_pos rfl]
 have key:=setAt_valid h0 hi0 (by rw[e0];exact (sEq_iff _ _).2 rfl) (b:=b) hb (by rw[e0];rw[fitsN_set h hi b (mkS []) false];exact hf)
 rw[e0] at key
 have e:setAt (setAt f i f.cps[i] (mkS [])) i {f.cps[i] with at_:=mkS []} b.name=setAt f i f.cps[i] b.name:=by
  simp only[setAt,List.set_set]
 rw[e] at key
 exact key
end
end Go.Ev
namespace Go.Ev
section
variable {bs:List (List C)} (hb:BY bs) (hl:bs.length≤2000)
include hb hl
theorem l3CopyN (f:Fl) (hz:f.cps.length≤1048576) {p:Int} (h0:0≤p) (h1:p≤1125899906842624-100):
  ∃(s:Str) (p':Int),s_l3Copy (f.e++[.l bs,.i p])=some [.s s,.l bs,.i p']∧(s=Go.Ev.bs #[]∨s=Go.Ev.bs #[103,111,110,101]∨∃k,∃hk:k<f.cps.length,s=f.cps[k].name)∧p≤p'∧p'≤p+10:=by
 have tb:∀x:Nat,x<2→∃v:Str,((rows [[C.s (Go.Ev.bs #[])],[C.s (Go.Ev.bs #[103,111,110,101])]]).getD x []).getD 0 .nil=.s v∧(v=Go.Ev.bs #[]∨v=Go.Ev.bs #[103,111,110,101]):=fun x hx=>by
  rcases x with _|_|x
  ·exact ⟨_,rfl,.inl rfl⟩
  ·exact ⟨_,rfl,.inr rfl⟩
  ·omega
 have t2:(rows [[C.s (Go.Ev.bs #[])],[C.s (Go.Ev.bs #[103,111,110,101])]]).length=2:=rfl
 simp only[s_l3Copy,s_l3Copy.d1,Fl.e,jA,jB,apL,jC,jD,C.L_l,jW]
 by_cases hc:f.cps.length=0
 ·have nc:((f.cps.length:Int)==0)=true:=by rw[hc];rfl
  obtain ⟨x,hx,g1⟩:=pk_ok hb hl h0 (show p≤1125899906842624 by omega) (n:=2) (by omega) (by omega)
  obtain ⟨v,v1,v2⟩:=tb x (by omega)
  have l1:(x:Int)<((2:Nat):Int):=by omega
  refine ⟨v,p+1,?_,v2.elim .inl fun h=>.inr (.inl h),by omega,by omega⟩
  simp only[nc,jZ,jS,g1,call3,jI,jC,jD,C.I_i,jX,decide_true,jR,t2,l1,jY,v1,jV]
 ·have nc:((f.cps.length:Int)==0)=false:=by rw[beq_eq_false_iff_ne];omega
  obtain ⟨y,hy,g1⟩:=pk_ok hb hl h0 (show p≤1125899906842624 by omega) (n:=16) (by omega) (by omega)
  simp only[nc,ja,jR,g1,call3,jI,jC,jD,C.I_i]
  cases hq:((y:Int)==0) with
  |true=>
   obtain ⟨x,hx,g2⟩:=pk_ok hb hl (p:=p+1) (n:=2) (by omega) (by omega) (by omega) (by omega)
   obtain ⟨v,v1,v2⟩:=tb x (by omega)
   have l1:(x:Int)<((2:Nat):Int):=by omega
   refine ⟨v,p+1+1,?_,v2.elim .inl fun h=>.inr (.inl h),by omega,by omega⟩
   simp only[jR,g2,jI,jC,jD,C.I_i,jX,decide_true,t2,l1,jY,v1,jV]
  |false=>
   obtain ⟨x,hx,g2⟩:=pk_ok hb hl (p:=p+1) (n:=(f.cps.length:Int)) (by omega) (by omega) (by omega) (by omega)
   have hx':x<f.cps.length:=by omega
   refine ⟨f.cps[x].name,p+1+1,?_,.inr (.inr ⟨x,hx',rfl⟩),by omega,by omega⟩
   simp only[jS,g2,jI,jC,jD,C.I_i,jX,decide_true,jR,ltL hx',jY]
   rw[getD_map' Cp.e hx']
   rfl
theorem l3BerthN (f:Fl) (hz:f.bts.length≤1048576) {p:Int} (h0:0≤p) (h1:p≤1125899906842624-100):
  ∃(s:Str) (p':Int),s_l3Berth (f.e++[.l bs,.i p])=some [.s s,.l bs,.i p']∧(s=Go.Ev.bs #[]∨s=Go.Ev.bs #[103,111,110,101]∨∃k,∃hk:k<f.bts.length,s=f.bts[k].name)∧p≤p'∧p'≤p+10:=by
 have tb:∀x:Nat,x<2→∃v:Str,((rows [[C.s (Go.Ev.bs #[])],[C.s (Go.Ev.bs #[103,111,110,101])]]).getD x []).getD 0 .nil=.s v∧(v=Go.Ev.bs #[]∨v=Go.Ev.bs #[103,111,110,101]):=fun x hx=>by
  rcases x with _|_|x
  ·exact ⟨_,rfl,.inl rfl⟩
  ·exact ⟨_,rfl,.inr rfl⟩
  ·omega
 have t2:(rows [[C.s (Go.Ev.bs #[])],[C.s (Go.Ev.bs #[103,111,110,101])]]).length=2:=rfl
 simp only[s_l3Berth,s_l3Berth.d1,Fl.e,jA,jB,apL,jC,jD,C.L_l,jW]
 by_cases hc:f.bts.length=0
 ·have nc:((f.bts.length:Int)==0)=true:=by rw[hc];rfl
  obtain ⟨x,hx,g1⟩:=pk_ok hb hl h0 (show p≤1125899906842624 by omega) (n:=2) (by omega) (by omega)
  obtain ⟨v,v1,v2⟩:=tb x (by omega)
  have l1:(x:Int)<((2:Nat):Int):=by omega
  refine ⟨v,p+1,?_,v2.elim .inl fun h=>.inr (.inl h),by omega,by omega⟩
  simp only[nc,jZ,jS,g1,call3,jI,jC,jD,C.I_i,jX,decide_true,jR,t2,l1,jY,v1,jV]
 ·have nc:((f.bts.length:Int)==0)=false:=by rw[beq_eq_false_iff_ne];omega
  obtain ⟨y,hy,g1⟩:=pk_ok hb hl h0 (show p≤1125899906842624 by omega) (n:=16) (by omega) (by omega)
  simp only[nc,ja,jR,g1,call3,jI,jC,jD,C.I_i]
  cases hq:((y:Int)==0) with
  |true=>
   obtain ⟨x,hx,g2⟩:=pk_ok hb hl (p:=p+1) (n:=2) (by omega) (by omega) (by omega) (by omega)
   obtain ⟨v,v1,v2⟩:=tb x (by omega)
   have l1:(x:Int)<((2:Nat):Int):=by omega
   refine ⟨v,p+1+1,?_,v2.elim .inl fun h=>.inr (.inl h),by omega,by omega⟩
   simp only[jR,g2,jI,jC,jD,C.I_i,jX,decide_true,t2,l1,jY,v1,jV]
  |false=>
   obtain ⟨x,hx,g2⟩:=pk_ok hb hl (p:=p+1) (n:=(f.bts.length:Int)) (by omega) (by omega) (by omega) (by omega)
   have hx':x<f.bts.length:=by omega
   refine ⟨f.bts[x].name,p+1+1,?_,.inr (.inr ⟨x,hx',rfl⟩),by omega,by omega⟩
   simp only[jS,g2,jI,jC,jD,C.I_i,jX,decide_true,jR,ltL hx',jY]
   rw[getD_map' Bt.e hx']
   rfl
end
theorem drawFits_ok {A:List (List C)} (hA:BY A):∃(f:Fl) (cn bn:Str),s_DrawPilotFits [.l A]=some (f.e++[.s cn,.s bn])∧f.Sz 1048576∧(cn=bs #[]∨cn=bs #[103,111,110,101]∨∃k,∃hk:k<f.cps.length,cn=f.cps[k].name)∧(bn=bs #[]∨bn=bs #[103,111,110,101]∨∃k,∃hk:k<f.bts.length,bn=f.bts[k].name):=by
 obtain ⟨bs,g0,hb,hl⟩:=open_ok hA
 obtain ⟨f,p',g1,hz,h2,h3⟩:=l2Any_ok hb hl (p:=0) (by omega) (by omega)
 obtain ⟨s,p2,g2,n2,h4,h5⟩:=l3CopyN hb hl f hz.2.2.1 (p:=p') (by omega) (by omega)
 obtain ⟨t,p3,g3,n3,h6,h7⟩:=l3BerthN hb hl f hz.1.1 (p:=p2) (by omega) (by omega)
 refine ⟨f,s,t,?_,hz,n2,n3⟩
 simp only[Fl.e,jA,jB] at g1 g2 g3
 simp only[s_DrawPilotFits,s_DrawPilotFits.d1,apL,jC,jD,g0,g1,g2,g3,call2,call6,call3,jI,jV]
 rfl
end Go.Ev
namespace Go.Ev
theorem wpNames_eq (L:List Str) (hl:L.length≤1048576):w_wpNames [.l (L.map sE),.l (L.map sE)]=some [.b true]:=by
 have hb:L.length<big:=by simp only[big];omega
 have h:=run_loop (body:=ap3 w_wpNames.d1) (S:=fun i=>[.l (L.map sE),.l (L.map sE),.i (i:Nat)]) (n:=L.length) (b:=0) (ys:=[])
  (fun i hi=>by
   simp only[apL,jC,jD,w_wpNames.d1,C.I_i,C.L_l,jW,ltL hi,jX,decide_true,jR,jY,w1 hi hb]
   rw[getD_map' sE hi]
   simp only[sE,jC,C.S_s,beq_self_eq_true,jZ,jS])
  (by simp[w_wpNames.d1]) L.length 0 rfl
 have e:((L.length:Int) !=(L.length:Int))=false:=by simp
 simp only[Int.natCast_zero] at h
 simp only[w_wpNames,w_wpNames.d3,apL,jC,jD,C.L_l,jW,e,jS,h,bindBlk_self,w_wpNames.d2,jV]
theorem wpIn_eq (L:List Str) (s:Str) (hl:L.length≤1048576):w_wpIn [.l (L.map sE),.s s]=some [.b (L.any fun x=>sEq x s)]:=by
 have hb:L.length<big:=by simp only[big];omega
 have key:∀d i,i+d=L.length→bindBlk 0 (lim (ap3 w_wpIn.d1) [.l (L.map sE),.s s,.i (i:Nat)]) (fun xs=>w_wpIn.d2)=some (.ret [.b ((L.drop i).any fun x=>sEq x s)]):=by
  intro d
  induction d with
  |zero=>
   intro i hi
   have:¬((i:Int)<(L.length:Int)):=by omega
   rw[lim_brk (i:=0) (ys:=[]) (by simp only[apL,jC,jD,w_wpIn.d1,C.I_i,C.L_l,jW,this,decide_false,jS]),bindBlk_self,List.drop_eq_nil_of_le (by omega)]
   rfl
  |succ d ih=>
   intro i hi
   have hlt:i<L.length:=by omega
   have stp:ap3 w_wpIn.d1 [.l (L.map sE),.s s,.i (i:Nat)]=bif sEq L[i] s then some (.ret [.b true]) else some (.again [.l (L.map sE),.s s,.i (i+1:Nat)]):=by
    simp only[apL,jC,jD,w_wpIn.d1,C.I_i,C.L_l,C.S_s,jW,ltL hlt,jX,decide_true,jR,jY,w1 hlt hb]
    rw[getD_map' sE hlt]
    simp only[sE,jC,C.S_s,sEq]
   rw[List.drop_eq_getElem_cons hlt,List.any_cons]
   cases hq:sEq L[i] s with
   |true=>rw[lim_ret (by rw[stp,hq];rfl),bindBlk_ret];rfl
   |false=>rw[lim_again (by rw[stp,hq];rfl),ih (i+1) (by omega),Bool.false_or]
 have:=key L.length 0 (by omega)
 simp only[Int.natCast_zero,List.drop_zero] at this
 simp only[w_wpIn,w_wpIn.d3,apL,jC,jD,this,jV]
def atF (cn bn:Str) (c:Cp):Cp:=bif sEq c.name cn then {c with at_:=bn} else c
theorem wpAt_eq {f:Fl} (hz:f.Sz 1048576) (cn bn:Str):w_wpAt (f.e++[.s cn,.s bn])=some [.b f.pack,.l (f.bts.map Bt.e),.l (f.svs.map Sv.e),.l ((f.cps.map (atF cn bn)).map Cp.e)]:=by
 have hb:f.cps.length<big:=by have:=hz.2.2.1;simp only[big];omega
 have key:∀d i (l:List Cp),i+d=f.cps.length→l.length=f.cps.length→(∀j (h1:j<l.length) (h2:j<f.cps.length),l[j]=if j<i then atF cn bn f.cps[j] else f.cps[j])→
   lim (ap11 w_wpAt.d1) [.s cn,.s bn,.i (i:Nat),.b false,.b f.pack,.l (f.bts.map Bt.e),.l (f.svs.map Sv.e),.l [],.l [],.l [],.l (l.map Cp.e)]=some (.brk 0 [.b false,.b f.pack,.l (f.bts.map Bt.e),.l (f.svs.map Sv.e),.l [],.l [],.l [],.l ((f.cps.map (atF cn bn)).map Cp.e)]):=by
  intro d
  induction d with
  |zero=>
   intro i l hi hl hj
   have e:l=f.cps.map (atF cn bn):=by
    refine List.ext_getElem (by rw[jW,hl]) fun j h1 h2=>?_
    have h3:j<f.cps.length:=by omega
    rw[hj j h1 h3,if_pos (by omega),List.getElem_map]
   have:¬((i:Int)<(f.cps.length:Int)):=by omega
   refine lim_brk ?_
   rw[e]
   simp only[apL,jC,jD,w_wpAt.d1,C.I_i,C.L_l,jW,this,decide_false,jS]
  |succ d ih=>
   intro i l hi hl hj
   have hlt:i<l.length:=by omega
   have hlt':i<f.cps.length:=by omega
   have hli:l[i]=f.cps[i]:=by rw[hj i hlt hlt',if_neg (by omega)]
   have stp:ap11 w_wpAt.d1 [.s cn,.s bn,.i (i:Nat),.b false,.b f.pack,.l (f.bts.map Bt.e),.l (f.svs.map Sv.e),.l [],.l [],.l [],.l (l.map Cp.e)]=some (.again [.s cn,.s bn,.i (i+1:Nat),.b false,.b f.pack,.l (f.bts.map Bt.e),.l (f.svs.map Sv.e),.l [],.l [],.l [],.l ((l.set i (atF cn bn f.cps[i])).map Cp.e)]):=by
    have st:sEq l[i].name cn=true→(l.map Cp.e).set i (setCs ((l.map Cp.e).getD i []) 11 [.s bn])=(l.set i (atF cn bn f.cps[i])).map Cp.e:=fun hq=>by
     rw[getD_map' Cp.e hlt,List.map_set]
     congr 1
     rw[hli] at hq⊢
     simp only[atF,hq,jR]
     rfl
    have st0:sEq l[i].name cn=false→l.map Cp.e=(l.set i (atF cn bn f.cps[i])).map Cp.e:=fun hq=>by
     rw[hli] at hq
     have e:atF cn bn f.cps[i]=l[i]:=by simp only[atF,hq,jS,hli]
     rw[e,List.set_getElem_self]
    simp only[apL,jC,jD,w_wpAt.d1,C.I_i,C.L_l,C.S_s,jW,ltL hlt,jX,decide_true,jR,jY,w1 hlt (show l.length<big by rw[hl];exact hb)]
    have q0:((((l.map Cp.e).getD i []).getD 0 .nil).S.toList==cn.toList)=sEq l[i].name cn:=by rw[getD_map' Cp.e hlt];rfl
    rw[q0]
    cases hq:sEq l[i].name cn with
    |true=>rw[st hq];rfl
    |false=>rw[←st0 hq];rfl
   rw[lim_again stp]
   refine ih (i+1) _ (by omega) (by rw[List.length_set,hl]) fun j h1 h2=>?_
   rw[List.getElem_set]
   split
   ·rename_i e;subst e;rw[if_pos (by omega)]
   ·rename_i hne
    have h1':j<l.length:=by omega
    rw[hj j h1' h2]
    by_cases hji:j<i
    ·rw[if_pos hji,if_pos (by omega)]
    ·rw[if_neg hji,if_neg (by omega)]
 have h0:=key f.cps.length 0 f.cps (by omega) rfl (fun j h1 h2=>by rw[if_neg (by omega)])
 have hc:0+f.cps.length≤4294967296:=by have:=hz.2.2.1;omega
 simp only[Int.natCast_zero] at h0
 simp only[w_wpAt,w_wpAt.d3,Fl.e,jA,jB,apL,jC,jD,C.L_l,jW,nils,List.length_nil,hc,decide_true,jR,h0,bindBlk_self,w_wpAt.d2,jV]
theorem atF_set {f:Fl} (hv:validF f=true) {k:Nat} (hk:k<f.cps.length) (bn:Str):f.cps.map (atF f.cps[k].name bn)=(setAt f k f.cps[k] bn).cps:=by
 unfold setAt
 refine List.ext_getElem (by simp) fun j h1 h2=>?_
 have hj:j<f.cps.length:=by simpa using h1
 rw[List.getElem_map,List.getElem_set]
 split
 ·rename_i e;subst e;simp only[atF,(sEq_iff _ _).2 rfl,jR]
 ·rename_i hne
  simp only[atF,name_other (vf_of hv) hk hj hne,jS]
theorem open_loop {f:Fl} (hz:f.Sz 1048576) (hv:validF f=true) {j:Nat} (hj:j<f.bts.length) (cn:Str) (h p1 p2 p3:C) (M:List (List C)):
  ∀d i (op:Bool),i+d=f.bts.length→(j<i→op=!f.bts[j].shut)→lim (ap13 w_FnPilotFits.d1) [.s cn,.s f.bts[j].name,h,.b op,.i (i:Nat),.b f.pack,.l (f.bts.map Bt.e),.l (f.svs.map Sv.e),.l (f.cps.map Cp.e),p1,p2,p3,.l M]=some (.brk 0 [.s cn,h,.b (!f.bts[j].shut),p1,p2,p3,.l M]):=by
 have hb:f.bts.length<big:=by have:=hz.1.1;simp only[big];omega
 intro d
 induction d with
 |zero=>
  intro i op hi ho
  have:¬((i:Int)<(f.bts.length:Int)):=by omega
  refine lim_brk ?_
  simp only[apL,jC,jD,w_FnPilotFits.d1,C.I_i,C.L_l,jW,this,decide_false,jS,ho (by omega)]
 |succ d ih=>
  intro i op hi ho
  have hlt:i<f.bts.length:=by omega
  have stp:ap13 w_FnPilotFits.d1 [.s cn,.s f.bts[j].name,h,.b op,.i (i:Nat),.b f.pack,.l (f.bts.map Bt.e),.l (f.svs.map Sv.e),.l (f.cps.map Cp.e),p1,p2,p3,.l M]=some (.again [.s cn,.s f.bts[j].name,h,.b (bif sEq f.bts[i].name f.bts[j].name then !f.bts[i].shut else op),.i (i+1:Nat),.b f.pack,.l (f.bts.map Bt.e),.l (f.svs.map Sv.e),.l (f.cps.map Cp.e),p1,p2,p3,.l M]):=by
   simp only[apL,jC,jD,w_FnPilotFits.d1,C.I_i,C.L_l,C.S_s,jW,ltL hlt,jX,decide_true,jR,jY,w1 hlt hb]
   rw[getD_map' Bt.e hlt]
   simp only[Bt.e,jC,jD,C.S_s,C.B_b]
   rw[show (f.bts[i].name.toList==f.bts[j].name.toList)=sEq f.bts[i].name f.bts[j].name from rfl]
   cases sEq f.bts[i].name f.bts[j].name<;>rfl
  rw[lim_again stp]
  refine ih (i+1) _ (by omega) fun hji=>?_
  rcases Nat.lt_or_eq_of_le (Nat.le_of_lt_succ hji) with q|q
  ·rw[ho q]
   cases hs:sEq f.bts[i].name f.bts[j].name with
   |false=>rfl
   |true=>
    have e:f.bts[i]=f.bts[j]:=by
     obtain ⟨a,ha,a1,a2⟩:=bIx_name hv (List.getElem_mem hlt)
     obtain ⟨b,hb',b1,b2⟩:=bIx_name hv (List.getElem_mem hj)
     rw[(sEq_iff _ _).1 hs,b1] at a1
     have:b=a:=by omega
     subst this
     rw[←a2,←b2]
    rw[e];rfl
  ·subst q
   rw[(sEq_iff _ _).2 rfl];rfl
theorem fitsN_lt (f:Fl) (c:Cp) (b:Bt) (o:Bool):fitsN f c b o<9:=by
 unfold fitsN
 cases b.shut&&!o<;>simp only[jR,jS]<;>try omega
 cases !sEq c.fixed (mkS [])&&!sEq c.fixed b.name<;>simp only[jR,jS]<;>try omega
 cases !selM c.sel b<;>simp only[jR,jS]<;>try omega
 cases f.cps.any (togP f c b)<;>simp only[jR,jS]<;>try omega
 cases farB f c b<;>simp only[jR,jS]<;>try omega
 cases decide (10≤cntN (onP c b) f.cps f.cps.length)<;>simp only[jR,jS]<;>try omega
 cases decide (b.room<sumN (onP c b) Cp.room f.cps f.cps.length+c.room)<;>simp only[jR,jS]<;>try omega
 cases decide (b.hold<sumN (onP c b) Cp.hold f.cps f.cps.length+c.hold)<;>simp only[jR,jS]<;>omega
end Go.Ev
namespace Go.Ev
theorem fits_law {f:Fl} (hv:validF f=true) {k j:Nat} (hk:k<f.cps.length) (hj:j<f.bts.length) (hs:f.bts[j].shut=false):
  (bif validF (setAt f k f.cps[k] f.bts[j].name) then ((((fitsN f f.cps[k] f.bts[j] false:Nat):Int)==0)==(!(rightOf (setAt f k f.cps[k] f.bts[j].name)).any (fun x=>sEq x f.cps[k].name))) else ((((fitsN f f.cps[k] f.bts[j] false:Nat):Int)==0)==false))=true:=by
 have hf:=vf_of hv
 have hbo:=(vb_of hv).bb _ (List.getElem_mem hj)
 have ho:fitsN f f.cps[k] f.bts[j] false=fitsN f f.cps[k] f.bts[j] true:=by rw[fits_open,hs];rfl
 have hk':k<(setAt f k f.cps[k] f.bts[j].name).cps.length:=by simpa [setAt] using hk
 have hg:(setAt f k f.cps[k] f.bts[j].name).cps[k]= {f.cps[k] with at_:=f.bts[j].name}:=by rw[setAt_get hf hk hk' hk,if_pos rfl]
 have hbi:bIx (setAt f k f.cps[k] f.bts[j].name) f.bts[j].name=bIx f f.bts[j].name:=rfl
 obtain ⟨a,ha,a1,a2⟩:=bIx_name hv (List.getElem_mem hj)
 have hw:wrongB (setAt f k f.cps[k] f.bts[j].name) {f.cps[k] with at_:=f.bts[j].name}=!(fitsN f f.cps[k] f.bts[j] false==0):=by
  have e1:(setAt f k f.cps[k] f.bts[j].name).bts[(bIx f f.bts[j].name).toNat]?=some f.bts[j]:=by
   rw[a1,jY,←a2]
   exact List.getElem?_eq_getElem ha
  simp only[wrongB,bname_ne hbo,ja,Bool.true_and,hbi,e1]
  rw[fitsN_set hf hk f.bts[j] f.bts[j].name true,ho]
 have fz:(((fitsN f f.cps[k] f.bts[j] false:Nat):Int)==0)=(fitsN f f.cps[k] f.bts[j] false==0):=by
  rw[Bool.eq_iff_iff,beq_iff_eq,beq_iff_eq];omega
 rw[fz]
 have hin:∀(hg':validF (setAt f k f.cps[k] f.bts[j].name)=true),(rightOf (setAt f k f.cps[k] f.bts[j].name)).any (fun x=>sEq x f.cps[k].name)=!(fitsN f f.cps[k] f.bts[j] false==0):=fun hg'=>by
  rw[←hw,Bool.eq_iff_iff]
  simp only[rightOf,hg',jR,wrongL,List.take_length,List.any_eq_true]
  constructor
  ·rintro ⟨x,hx,hq⟩
   obtain ⟨c,hc,rfl⟩:=List.mem_map.1 hx
   obtain ⟨hc1,hc2⟩:=List.mem_filter.1 hc
   have hu:=uniq_of hg'
   have:c=(setAt f k f.cps[k] f.bts[j].name).cps[k]:=uniq_mem hu hc1 (List.getElem_mem hk') (by rw[hg];exact hq)
   rw[←hg,←this]
   exact hc2
  ·intro hq
   refine ⟨f.cps[k].name,List.mem_map.2 ⟨{f.cps[k] with at_:=f.bts[j].name},List.mem_filter.2 ⟨?_,hq⟩,rfl⟩,(sEq_iff _ _).2 rfl⟩
   rw[←hg]
   exact List.getElem_mem hk'
 cases hq:(fitsN f f.cps[k] f.bts[j] false==0) with
 |true=>
  have hm:=valid_vf (move_valid hf hk f.bts[j] (List.getElem_mem hj) (by simpa using hq))
  rw[hm,jR,hin hm,hq]
  rfl
 |false=>
  cases hm:validF (setAt f k f.cps[k] f.bts[j].name) with
  |false=>rfl
  |true=>
   rw[jR,hin hm,hq]
   rfl
theorem FnPilotFits_true {A:List (List C)} (hA:BY A):w_FnPilotFits [.l A]=some [.b true]:=by
 obtain ⟨f,cn,bn,g1,hz,hcn,hbn⟩:=drawFits_ok hA
 have c1:=i_PilotFits_eq hz cn bn
 have c2:=s_PilotFits_eq hz cn bn
 have r1:=i_PilotRight_eq hz
 have r2:=s_PilotRight_eq hz
 have v:=s_PilotValid_eq hz
 have hrl:(rightOf f).length≤1048576:=by
  unfold rightOf
  cases validF f with
  |false=>simp
  |true=>
   simp only[jR,wrongL,jW]
   exact Nat.le_trans (List.length_filter_le _ _) (by rw[List.take_length];exact hz.2.2.1)
 have wn:=wpNames_eq (rightOf f) hrl
 simp only[Fl.e,jA,jB] at g1 c1 c2 r1 r2 v
 have n0:(((fitsOf f cn bn:Nat):Int) !=((fitsOf f cn bn:Nat):Int))=false:=by simp
 simp only[w_FnPilotFits,w_FnPilotFits.d3,apL,jC,jD,C.L_l]
 cases decide ((A.length:Int)>1048576) with
 |true=>rfl
 |false=>
  simp only[jS,g1,call6,call1,jI,jC,jD,c1,c2,C.I_i,n0,r1,r2,C.L_l,wn,C.B_b,jZ,v]
  have fin9:(fitsOf f cn bn≠9→∃k j,∃hk:k<f.cps.length,∃hj:j<f.bts.length,validF f=true∧cIx f cn=(k:Nat)∧cn=f.cps[k].name∧bn=f.bts[j].name∧fitsOf f cn bn=fitsN f f.cps[k] f.bts[j] false):=fun h=>by
   unfold fitsOf at h
   cases hv:validF f with
   |false=>rw[hv] at h;exact absurd rfl h
   |true=>
    rw[hv,jR] at h
    rcases cIx_at f cn with q|⟨k,hk,q,e1⟩
    ·exfalso
     apply h
     split
     ·rw[if_pos (.inl q)]
     ·rfl
    ·rcases bIx_at f bn with q2|⟨j,hj,q2,e2⟩
     ·exfalso
      apply h
      split
      ·rw[if_pos (.inr q2)]
      ·rfl
     ·have n1:¬((k:Int)<0∨(j:Int)<0):=by omega
      refine ⟨k,j,hk,hj,rfl,q,((sEq_iff _ _).1 e1).symm,((sEq_iff _ _).1 e2).symm,?_⟩
      simp only[fitsOf,hv,jR,q,q2,jY,List.getElem?_eq_getElem hk,List.getElem?_eq_getElem hj,n1,if_false]
  by_cases h9:fitsOf f cn bn=9
  ·have e9:(((fitsOf f cn bn:Nat):Int)==9)=true:=by rw[h9];rfl
   simp only[e9,jR]
   cases hv:validF f with
   |false=>rfl
   |true=>
    have q1:(cn.toList==(bs #[]).toList)=sEq cn (bs #[]):=rfl
    have q2:(bn.toList==(bs #[]).toList)=sEq bn (bs #[]):=rfl
    have q3:(cn.toList==(bs #[103,111,110,101]).toList)=sEq cn (bs #[103,111,110,101]):=rfl
    have q4:(bn.toList==(bs #[103,111,110,101]).toList)=sEq bn (bs #[103,111,110,101]):=rfl
    simp only[C.S_s,q1,q2,q3,q4]
    rcases hcn with rfl|rfl|⟨k,hk,rfl⟩
    ·rw[(sEq_iff (bs #[]) (bs #[])).2 rfl];rfl
    ·rw[(sEq_iff (bs #[103,111,110,101]) (bs #[103,111,110,101])).2 rfl]
     cases sEq (bs #[103,111,110,101]) (bs #[])<;>cases sEq bn (bs #[])<;>rfl
    ·rcases hbn with rfl|rfl|⟨j,hj,rfl⟩
     ·rw[(sEq_iff (bs #[]) (bs #[])).2 rfl]
      cases sEq f.cps[k].name (bs #[])<;>rfl
     ·rw[(sEq_iff (bs #[103,111,110,101]) (bs #[103,111,110,101])).2 rfl]
      cases sEq f.cps[k].name (bs #[])<;>cases sEq (bs #[103,111,110,101]) (bs #[])<;>cases sEq f.cps[k].name (bs #[103,111,110,101])<;>rfl
     ·exfalso
      obtain ⟨a,ha,a1,a2⟩:=cIx_name (uniq_of hv) (List.getElem_mem hk)
      have:=fitsOf_at hv ha a1 hj
      rw[h9] at this
      have:=fitsN_lt f f.cps[a] f.bts[j] false
      omega
  ·obtain ⟨k,j,hk,hj,hv,hc,ecn,ebn,hfit⟩:=fin9 h9
   subst ecn ebn
   have e9:(((fitsOf f f.cps[k].name f.bts[j].name:Nat):Int)==9)=false:=by rw[beq_eq_false_iff_ne];omega
   have W:=wpAt_eq hz f.cps[k].name f.bts[j].name
   rw[atF_set hv hk] at W
   have gz:=setAt_sz hz (hz.2.2.2 _ (List.getElem_mem hk)) (hz.1.2 _ (List.getElem_mem hj)).1 k
   have V:=i_PilotValid_eq gz
   have RR:=i_PilotRight_eq gz
   have hrl2:(rightOf (setAt f k f.cps[k] f.bts[j].name)).length≤1048576:=by
    unfold rightOf
    cases validF (setAt f k f.cps[k] f.bts[j].name) with
    |false=>simp
    |true=>
     simp only[jR,wrongL,jW]
     exact Nat.le_trans (List.length_filter_le _ _) (by rw[List.take_length];exact gz.2.2.1)
   have WI:=wpIn_eq (rightOf (setAt f k f.cps[k] f.bts[j].name)) f.cps[k].name hrl2
   have O:=open_loop hz hv hj f.cps[k].name (.i ((fitsOf f f.cps[k].name f.bts[j].name:Nat):Int)) (.b f.pack) (.l (f.bts.map Bt.e)) (.l (f.svs.map Sv.e)) ((setAt f k f.cps[k] f.bts[j].name).cps.map Cp.e) f.bts.length 0 true (by omega) (fun h=>absurd h (Nat.not_lt_zero _))
   simp only[Fl.e,jA,jB,Int.natCast_zero] at W V RR O
   have V':i_PilotValid [.b f.pack,.l (f.bts.map Bt.e),.l (f.svs.map Sv.e),.l ((setAt f k f.cps[k] f.bts[j].name).cps.map Cp.e)]=some [.b (validF (setAt f k f.cps[k] f.bts[j].name))]:=V
   have RR':i_PilotRight [.b f.pack,.l (f.bts.map Bt.e),.l (f.svs.map Sv.e),.l ((setAt f k f.cps[k] f.bts[j].name).cps.map Cp.e)]=some [.l ((rightOf (setAt f k f.cps[k] f.bts[j].name)).map sE)]:=RR
   simp only[e9,jS,W,call4,jI,jC,jD,C.L_l,O,bindBlk_self,apL,w_FnPilotFits.d2,C.B_b,V',call1,RR',WI,C.I_i]
   rw[hfit]
   cases hsh:f.bts[j].shut with
   |true=>
    have:fitsN f f.cps[k] f.bts[j] false=1:=by rw[fits_open,hsh];rfl
    rw[this]
    rfl
   |false=>
    have L:=fits_law hv hk hj hsh
    simp only[ja,jR]
    cases hm:validF (setAt f k f.cps[k] f.bts[j].name) with
    |true=>
     rw[hm,jR] at L
     simp only[jR,L,jV]
    |false=>
     rw[hm,jS] at L
     simp only[jS,L,jV]
end Go.Ev
namespace Go.Ev
open Go.RowKit
def bE (n:Int):List C:=[.i n]
def IsRow (k:IntKind) (w:World) (a:Option Addr) (len cap:Nat) (zs:List Int):Prop:=
 (a=none∧len=0∧cap=0∧zs=[])∨
 ∃x,a=some x∧len≤cap∧cap≤maxLen∧zs.length=cap∧(∀i,i<zs.length→w.cell? (x.add i)=some (.int k (zs.getD i 0)))∧∀n∈zs,(Lit.int k n).wf=true
theorem cell_someB {w:World} {a:Addr} {v:Value} (h:w.cell? a=some v):a.block<w.heap.size∧a.spot=none:=by
 simp only[World.cell?] at h
 split at h
 ·rename_i c _ _ hb
  refine ⟨?_,?_⟩
  ·exact (Array.getElem?_eq_some_iff.1 hb).1
  ·split at h
   ·simp at h
   ·rename_i hs;simpa using hs
 ·simp at h
theorem relc_bytes {T:Tys} {F:Nat→Prop} {w:World} {a:Option Addr} {len cap:Nat} {zs:List Int} {t:TypeId} {d:TD} (hd:tget T t=some d) (hcts:d.cts=[.int .u8]) (hF:∀k,k<w.heap.size→F k) (h:IsRow .u8 w a len cap zs):
  RelC T F w (.sl t) (.l ((zs.take len).map bE)) (.slice a len cap):=by
 rcases h with ⟨rfl,rfl,rfl,rfl⟩|⟨x,rfl,hl,hm,hz,hc,hw⟩
 ·exact .sl0 t none 0
 ·rcases Nat.eq_zero_or_pos len with h0|h0
  ·subst h0
   rw[List.take_zero,List.map_nil]
   exact .sl0 t (some x) cap
  ·have hc0:=hc 0 (by omega)
   have hx:=cell_someB hc0
   rw[Addr.add,if_pos rfl] at hx
   obtain ⟨g,o,sp⟩:=x
   obtain ⟨hg,hsp⟩:=hx
   simp only at hsp;subst hsp
   have hlen:((zs.take len).map bE).length=len:=by simp;omega
   have key:=RelC.sl (T:=T) (F:=F) (w:=w) t d ((zs.take len).map bE) g o cap (fun i _=>.int .u8 (zs.getD i 0)) hd (hF _ hg) (by omega)
    (fun i cs hi=>by
     simp only[List.getElem?_map,Option.map_eq_some_iff] at hi
     obtain ⟨n,_,rfl⟩:=hi
     rw[hcts];rfl)
    (fun i cs j c hi hj=>by
     have hil:i<len:=by
      have:=(List.getElem?_eq_some_iff.1 hi).1
      omega
     simp only[List.getElem?_map,Option.map_eq_some_iff] at hi
     obtain ⟨n,hn,rfl⟩:=hi
     have hj0:j=0:=by
      have:=(List.getElem?_eq_some_iff.1 hj).1
      simp only[bE,List.length_cons,List.length_nil] at this;omega
     subst hj0
     have h1:=hc i (by omega)
     rw[hcts]
     have ha:Addr.add ⟨g,o,none⟩ i=⟨g,o+(i*[CT.int .u8].length+0),none⟩:=by
      rw[Addr.add];split
      ·rename_i h;subst h;simp
      ·simp
     rw[←ha];exact h1)
    (fun i cs j c t' hi hj ht=>by
     have hil:i<len:=by
      have:=(List.getElem?_eq_some_iff.1 hi).1
      omega
     simp only[List.getElem?_map,Option.map_eq_some_iff] at hi
     obtain ⟨n,hn,rfl⟩:=hi
     have hj0:j=0:=by
      have:=(List.getElem?_eq_some_iff.1 hj).1
      simp only[bE,List.length_cons,List.length_nil] at this;omega
     subst hj0
     rw[hcts] at ht
     simp only[List.getElem?_cons_zero,Option.some.injEq] at ht
     subst ht
     simp only[bE,List.getElem?_cons_zero,Option.some.injEq] at hj
     subst hj
     rw[List.getElem?_take,if_pos hil] at hn
     rw[List.getD_eq_getElem?_getD,hn]
     exact .int .u8 n)
   rw[hlen] at key
   exact key
theorem wf_byte {n:Int} (h:(Lit.int .u8 n).wf=true):0≤n∧n≤255:=by
 simp only[Lit.wf,Bool.and_eq_true,decide_eq_true_eq] at h
 exact h
theorem IsRow.bytes {w:World} {a:Option Addr} {len cap:Nat} {zs:List Int} (h:IsRow .u8 w a len cap zs):∀n,n∈zs.take len→0≤n∧n≤255:=by
 intro n hn
 have hn':=List.mem_of_mem_take hn
 rcases h with ⟨_,_,_,rfl⟩|⟨x,_,_,_,_,_,hw⟩
 ·simp at hn'
 ·exact wf_byte (hw n hn')
theorem by_rows {zs:List Int} (h:∀n,n∈zs→0≤n∧n≤255):BY (zs.map bE):=fun r hr=>by
 obtain ⟨n,hn,rfl⟩:=List.mem_map.1 hr
 exact ⟨n,rfl,h n hn⟩
end Go.Ev
